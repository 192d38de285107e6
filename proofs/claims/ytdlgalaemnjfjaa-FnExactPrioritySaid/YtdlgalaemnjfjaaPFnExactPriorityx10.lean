-- Written by a program of this session out of the translation. Not trusted: Lean checks it.
import Derived.Test.YtdlgalaemnjfjaaPFnExactPriorityx0
import Derived.Test.YtdlgalaemnjfjaaPFnExactPriorityx1
import Derived.Test.YtdlgalaemnjfjaaPFnExactPriorityx2
import Derived.Test.YtdlgalaemnjfjaaPFnExactPriorityx8
import Derived.Test.YtdlgalaemnjfjaaPFnExactPriorityx9
import Derived.Laws.CopyOwn
import Derived.Maps.OwnOps
import Derived.Maps.Views
namespace Go.Proofs.Ytdlgalaemnjfjaa.PFnExactPriority
open Go.RowKit Go.Proofs.YtdlgalaemnjfjaaW.PrintWords Go.Proofs.YtdlgalaemnjfjaaW.PrintLast Go.Proofs.YtdlgalaemnjfjaaW.PrintMore
attribute [local go_sem] max2_int min2_int max_two min_two max_three min_three max_four min_four   -- for this text's walks alone
set_option linter.unusedVariables false
set_option linter.unusedSimpArgs false

/-! ### impl_Priority: function 15 -/
/-- A thread's own share. -/
def impl_Sched_prio.own (n_ : Int) (x : S71) : Int := if x.f2 = 1 then (if wrap64 (x.f1 + wrap64 ((wrap64 (n_ - x.f5)).tdiv 16)) < 7 then wrap64 (x.f1 + wrap64 ((wrap64 (n_ - x.f5)).tdiv 16)) else 7) else x.f1
def impl_Sched_prio.lp (rec : Nat → Option Int) (lid : Int) : List S71 → Nat → Int → Option Int
  | [], _, p => some p
  | x :: xs, i, p => if x.f2 = 2 then (if x.f7 = lid then (rec i).bind fun r => impl_Sched_prio.lp rec lid xs (i + 1) (max p r) else impl_Sched_prio.lp rec lid xs (i + 1) p) else impl_Sched_prio.lp rec lid xs (i + 1) p
def impl_Sched_prio.lq (rec : Nat → Option Int) (Ts : List S71) (me : Int) : List S68 → Int → Option Int
  | [], p => some p
  | y :: ys, p => if y.f1 = me then (impl_Sched_prio.lp rec y.f0 Ts 0 p).bind fun p2 => impl_Sched_prio.lq rec Ts me ys p2 else impl_Sched_prio.lq rec Ts me ys p
def impl_Sched_prio.go (n_ : Int) (Ts : List S71) (Ls : List S68) : Nat → Nat → Option Int
  | 0, _ => none
  | d + 1, i => impl_Sched_prio.lq (impl_Sched_prio.go n_ Ts Ls d) Ts (rd_T71 Ts (i : Int)).f0 Ls (impl_Sched_prio.own n_ (rd_T71 Ts (i : Int)))
theorem impl_Sched_prio.lp_at {l : List S71} {i : Nat} {x : S71} (rec : Nat → Option Int) (lid p : Int) (h : l[i]? = some x) : impl_Sched_prio.lp rec lid (l.drop i) i p = if x.f2 = 2 then (if x.f7 = lid then (rec i).bind fun r => impl_Sched_prio.lp rec lid (l.drop (i + 1)) (i + 1) (max p r) else impl_Sched_prio.lp rec lid (l.drop (i + 1)) (i + 1) p) else impl_Sched_prio.lp rec lid (l.drop (i + 1)) (i + 1) p := by
  obtain ⟨hi, rfl⟩ := List.getElem?_eq_some_iff.1 h
  rw [List.drop_eq_getElem_cons hi, impl_Sched_prio.lp]
theorem impl_Sched_prio.lq_at {l : List S68} {i : Nat} {y : S68} (rec : Nat → Option Int) (Ts : List S71) (me p : Int) (h : l[i]? = some y) : impl_Sched_prio.lq rec Ts me (l.drop i) p = if y.f1 = me then (impl_Sched_prio.lp rec y.f0 Ts 0 p).bind fun p2 => impl_Sched_prio.lq rec Ts me (l.drop (i + 1)) p2 else impl_Sched_prio.lq rec Ts me (l.drop (i + 1)) p := by
  obtain ⟨hi, rfl⟩ := List.getElem?_eq_some_iff.1 h
  rw [List.drop_eq_getElem_cons hi, impl_Sched_prio.lq]
set_option maxHeartbeats 8000000 in
set_option maxRecDepth 100000 in
theorem impl_Sched_prio.calls (g : Nat) (n_ q_ : Int) (ad : Addr) (c : Nat) (Ts : List S71) (A2 : Option Addr) (c2 : Nat) (Ls : List S68) (hcm : Ts.length ≤ 32) (hcm2 : Ls.length ≤ 16) : ∀ (d i : Nat) (r : Int) (w : World), w.heap[g]? = some (.cells #[.int .i64 n_, .int .i64 q_, .slice (some ad) Ts.length c, .slice A2 Ls.length c2] 31 (0, 0)) → Kd.C k71 w (some ad) Ts.length Ts → Kd.C k68 w A2 Ls.length Ls → i < Ts.length → impl_Sched_prio.go n_ Ts Ls d i = some r →
    Calls Try.prog 46 #[.pointer (some ⟨g, 0, none⟩), .pointer (some (ad.add (i * 8)))] w fun e w' => e = .returned (.int .i64 r) ∧ Below w.heap.size w w' := by
  have hcm_ := Aside0.mk hcm
  have hcm2_ := Aside0.mk hcm2
  clear hcm hcm2
  have hcm := hcm_
  have hcm2 := hcm2_
  clear hcm_ hcm2_
  intro d
  induction d with
  | zero => intro i r w _ _ _ _ h; cases h
  | succ d ih_ =>
  have ih := Aside0.mk ih_
  clear ih_
  intro i r w hg hC_ hC2_ hi h
  have BP := Aside0.mk hg
  have hC := Aside0.mk hC_
  have hC2 := Aside0.mk hC2_
  clear hC_ hC2_
  obtain ⟨ad_, had, h0, h1, h2, -, -, h5, -, -⟩ := at_T71 hC.out (i : Int) (by omega) (by omega)
  obtain rfl := Option.some.inj had
  obtain ⟨x, hx⟩ : ∃ x, Aside0 (rd_T71 Ts (i : Int) = x) := ⟨_, ⟨rfl⟩⟩
  simp only [Int.toNat_natCast, hx.out] at h0 h1 h2 h5
  have HA0 : Aside0 (impl_Sched_prio.lq (impl_Sched_prio.go n_ Ts Ls d) Ts x.f0 Ls (impl_Sched_prio.own n_ x) = some r) := ⟨by rw [impl_Sched_prio.go, hx.out] at h; exact h⟩
  have HB : Aside0 (Below w.heap.size w w) := ⟨Below.refl _ _⟩
  clear hg h had hi hx
  have hg0 : w.cell? ⟨g, 0, none⟩ = some (.int .i64 n_) := (blk_cell BP.out 0).trans rfl
  have hg3 : w.cell? ⟨g, 3, none⟩ = some (.slice A2 Ls.length c2) := (blk_cell BP.out 3).trans rfl
  obtain ⟨ow, how⟩ : ∃ ow, Aside0 (impl_Sched_prio.own n_ x = ow) := ⟨_, ⟨rfl⟩⟩
  have HA1 : Aside0 (impl_Sched_prio.lq (impl_Sched_prio.go n_ Ts Ls d) Ts x.f0 Ls ow = some r) := ⟨by rw [← how.out]; exact HA0.out⟩
  clear HA0
  have LOOP : ∀ (fr : Prop), True := fun _ => trivial
  clear LOOP
  by_cases s1 : x.f2 = 1
  · have f1 : (x.f2 == 1) = true := by simp [s1]
    have how1 : Aside0 ((if wrap64 (x.f1 + wrap64 ((wrap64 (n_ - x.f5)).tdiv 16)) < 7 then wrap64 (x.f1 + wrap64 ((wrap64 (n_ - x.f5)).tdiv 16)) else 7) = ow) := ⟨by have := how.out; unfold impl_Sched_prio.own at this; rw [if_pos s1] at this; exact this⟩
    clear s1 how
    go_enter Try.func46, Try.ntmps46
    go_upto_region 3 with fail
    go_quiet (fail)
    rw [show (if wrap64 (x.f1 + wrap64 ((wrap64 (n_ - x.f5)).tdiv 16)) < 7 then wrap64 (x.f1 + wrap64 ((wrap64 (n_ - x.f5)).tdiv 16)) else 7) = ow from how1.out]
    clear how1 f1 h1 h2 h5 hg0 hg3
    generalize hw1_ : World.drewN _ _ = w1; have n_ : Aside0 (Below w.heap.size w w1) := ⟨by rw [← hw1_]; exact pw_below_drewN HB.out _⟩; clear HB; have HB := n_; clear n_; have n_ : Aside0 (w1.heap[g]? = some (.cells #[.int .i64 n_, .int .i64 q_, .slice (some ad) Ts.length c, .slice A2 Ls.length c2] 31 (0, 0))) := ⟨by rw [← hw1_]; exact blk_drewN BP.out _⟩; clear BP; have BP := n_; clear n_
    clear hw1_
    have hg3 : w1.cell? ⟨g, 3, none⟩ = some (.slice A2 Ls.length c2) := (blk_cell BP.out 3).trans rfl
    go_wp2
    go_loopg [5, 37] Ls.length (fun kq v5 v37 wr => ∃ (p : Int) (j : Nat), v5 = .int .i64 p ∧ v37 = .int .i64 (j : Int) ∧ Aside0 (j + kq = Ls.length) ∧ Aside0 (impl_Sched_prio.lq (impl_Sched_prio.go n_ Ts Ls d) Ts x.f0 (Ls.drop j) p = some r) ∧ Aside0 (wr.heap[g]? = some (.cells #[.int .i64 n_, .int .i64 q_, .slice (some ad) Ts.length c, .slice A2 Ls.length c2] 31 (0, 0))) ∧ Aside0 (Below w.heap.size w wr))
    case atStart => exact ⟨ow, 0, rfl, rfl, ⟨by omega⟩, ⟨by rw [List.drop_zero]; exact HA1.out⟩, BP, HB⟩
    case round =>
      clear BP HB HA1 hg3
      obtain ⟨p, j, rfl, rfl, hk, HA1, BP, HB⟩ := hrel
      have hp0 : wr.cell? ⟨g, 0, none⟩ = some (.int .i64 n_) := (blk_cell BP.out 0).trans rfl; have hp2 : wr.cell? ⟨g, 2, none⟩ = some (.slice (some ad) Ts.length c) := (blk_cell BP.out 2).trans rfl; have hp3 : wr.cell? ⟨g, 3, none⟩ = some (.slice A2 Ls.length c2) := (blk_cell BP.out 3).trans rfl
      by_cases hj : j < Ls.length
      · obtain ⟨y, hy⟩ : ∃ y, Ls[j]? = some y := ⟨_, List.getElem?_eq_getElem hj⟩
        obtain ⟨ad2, rfl, q0, q1⟩ := at_T68 hC2.out (j : Int) (by omega) (by omega)
        simp only [Int.toNat_natCast, impl_Sched_lock.rd hy] at q0 q1
        have b0 : (0 ≤ (j : Int)) = True := eq_true (by omega)
        have b1 : ((j : Int) < (Ls.length : Int)) = True := eq_true (by omega)
        have b2 : (j < Ls.length) = True := eq_true hj
        have hlast := hcm2.out
        have hw : IntKind.i64.wrap ((j : Int) + 1) = ((j + 1 : Nat) : Int) := by rw [IntKind.wrap_i64]; omega
        have HA2 : Aside0 ((if y.f1 = x.f0 then (impl_Sched_prio.lp (impl_Sched_prio.go n_ Ts Ls d) y.f0 Ts 0 p).bind fun p2 => impl_Sched_prio.lq (impl_Sched_prio.go n_ Ts Ls d) Ts x.f0 (Ls.drop (j + 1)) p2 else impl_Sched_prio.lq (impl_Sched_prio.go n_ Ts Ls d) Ts x.f0 (Ls.drop (j + 1)) p) = some r) := ⟨by rw [← impl_Sched_prio.lq_at _ _ _ _ hy]; exact HA1.out⟩
        replace q0 := pw_cell_below HB.out q0
        replace q1 := pw_cell_below HB.out q1
        have hj_ := Aside0.mk hj
        clear hy HA1 hlast hj
        have hj := hj_
        clear hj_
        go_upto_region 7 with (first | ((with_reducible refine gate_dst (N := 7) rfl ?_); refine box_event ?hg (N := 7) ?hd (cs := #[.int .i64 0, .int .i64 0]) (t := 68) ?hr ?_; (case hd => rfl); (case hg => rfl); (case hr => first | (go_simp; done) | (go_simp; rfl)); intro gx hgq w4 hbq hB_; have GX := Aside0.mk (show w.heap.size ≤ gx by rw [hgq]; exact HB.out.size); have NX := Aside0.mk (show g ≠ gx by rw [hgq]; exact Nat.ne_of_lt (blk_lt BP.out)); have n_ := Aside0.mk (blk_below BP.out hB_); clear BP; have BP := n_; clear n_; have hp0 : w4.cell? ⟨g, 0, none⟩ = some (.int .i64 n_) := (blk_cell BP.out 0).trans rfl; have hp2 : w4.cell? ⟨g, 2, none⟩ = some (.slice (some ad) Ts.length c) := (blk_cell BP.out 2).trans rfl; have hp3 : w4.cell? ⟨g, 3, none⟩ = some (.slice (some ad2) Ls.length c2) := (blk_cell BP.out 3).trans rfl; have n_ := Aside0.mk (below_step HB.out hB_); clear HB hB_; have HB := n_; clear n_; have BX := Aside0.mk hbq; clear hbq hgq) | ((with_reducible refine gate_store (t := 68) (p := 7) rfl ?_); refine wpList_store_row rfl 68 (.tmp 7) (.tmp 40) rfl gx #[.int .i64 y.f0, .int .i64 y.f1] rfl rfl 68 _ BX.out (by kernel_rfl) rfl (by simp [Value.oneCell']) ?_; generalize hw : World.setRow _ _ _ = w5; have n_ : Aside0 (w5.heap[gx]? = some (.cells #[.int .i64 y.f0, .int .i64 y.f1] 68 (0, 0))) := ⟨by rw [← hw]; exact setRow_heap _ _ _ _ _ _ BX.out⟩; clear BX; have BX := n_; clear n_; have n_ : Aside0 (w5.heap[g]? = some (.cells #[.int .i64 n_, .int .i64 q_, .slice (some ad) Ts.length c, .slice (some ad2) Ls.length c2] 31 (0, 0))) := ⟨by rw [← hw]; exact (setRow_other _ _ _ _ NX.out).trans BP.out⟩; clear BP hp0 hp2 hp3; have BP := n_; clear n_; have hp0 : w5.cell? ⟨g, 0, none⟩ = some (.int .i64 n_) := (blk_cell BP.out 0).trans rfl; have hp2 : w5.cell? ⟨g, 2, none⟩ = some (.slice (some ad) Ts.length c) := (blk_cell BP.out 2).trans rfl; have hp3 : w5.cell? ⟨g, 3, none⟩ = some (.slice (some ad2) Ls.length c2) := (blk_cell BP.out 3).trans rfl; have n_ : Aside0 (Below w.heap.size w w5) := ⟨by rw [← hw]; exact below_setRow HB.out GX.out _⟩; clear HB hw; have HB := n_; clear n_; clear q0 q1))
        clear b0 b1 b2
        have x0 : w5.cell? ⟨gx, 0, none⟩ = some (.int .i64 y.f0) := (blk_cell BX.out 0).trans rfl
        have x1 : w5.cell? ⟨gx, 1, none⟩ = some (.int .i64 y.f1) := (blk_cell BX.out 1).trans rfl
        have h0_ := pw_cell_below HB.out h0
        by_cases c1 : y.f1 = x.f0
        · have f1 : (y.f1 != x.f0) = false := by simp [c1]
          have HA3 : Aside0 (((impl_Sched_prio.lp (impl_Sched_prio.go n_ Ts Ls d) y.f0 Ts 0 p).bind fun p2 => impl_Sched_prio.lq (impl_Sched_prio.go n_ Ts Ls d) Ts x.f0 (Ls.drop (j + 1)) p2) = some r) := ⟨by have := HA2.out; rw [if_pos c1] at this; exact this⟩
          clear HA2 c1
          go_quiet (fail)
          clear f1 h0_ x0 x1 hp0 hp2 hp3
          generalize hw1_ : World.drewN _ _ = w7; have n_ : Aside0 (Below w.heap.size w w7) := ⟨by rw [← hw1_]; exact pw_below_drewN HB.out _⟩; clear HB; have HB := n_; clear n_; have n_ : Aside0 (w7.heap[g]? = some (.cells #[.int .i64 n_, .int .i64 q_, .slice (some ad) Ts.length c, .slice (some ad2) Ls.length c2] 31 (0, 0))) := ⟨by rw [← hw1_]; exact blk_drewN BP.out _⟩; clear BP; have BP := n_; clear n_
          have n_ : Aside0 (w7.heap[gx]? = some (.cells #[.int .i64 y.f0, .int .i64 y.f1] 68 (0, 0))) := ⟨by rw [← hw1_]; exact blk_drewN BX.out _⟩; clear BX hw1_; have BX := n_; clear n_
          have hp0 : w7.cell? ⟨g, 0, none⟩ = some (.int .i64 n_) := (blk_cell BP.out 0).trans rfl; have hp2 : w7.cell? ⟨g, 2, none⟩ = some (.slice (some ad) Ts.length c) := (blk_cell BP.out 2).trans rfl; have hp3 : w7.cell? ⟨g, 3, none⟩ = some (.slice (some ad2) Ls.length c2) := (blk_cell BP.out 3).trans rfl
          go_upto_region 9 with fail
          go_loopg [5, 53] Ts.length (fun kq v5 v53 wr2 => ∃ (p : Int) (k : Nat), v5 = .int .i64 p ∧ v53 = .int .i64 (k : Int) ∧ Aside0 (k + kq = Ts.length) ∧ Aside0 (((impl_Sched_prio.lp (impl_Sched_prio.go n_ Ts Ls d) y.f0 (Ts.drop k) k p).bind fun p2 => impl_Sched_prio.lq (impl_Sched_prio.go n_ Ts Ls d) Ts x.f0 (Ls.drop (j + 1)) p2) = some r) ∧ Aside0 (wr2.heap[g]? = some (.cells #[.int .i64 n_, .int .i64 q_, .slice (some ad) Ts.length c, .slice (some ad2) Ls.length c2] 31 (0, 0))) ∧ Aside0 (wr2.heap[gx]? = some (.cells #[.int .i64 y.f0, .int .i64 y.f1] 68 (0, 0))) ∧ Aside0 (Below w.heap.size w wr2))
          case atStart => exact ⟨p, 0, rfl, rfl, ⟨by omega⟩, ⟨by rw [List.drop_zero]; exact HA3.out⟩, BP, BX, HB⟩
          case round =>
            clear BP HB BX HA3 hp0 hp2 hp3
            obtain ⟨p, k, rfl, rfl, hkk, HA3, BP, BX, HB⟩ := hrel
            have hp0 : wr.cell? ⟨g, 0, none⟩ = some (.int .i64 n_) := (blk_cell BP.out 0).trans rfl; have hp2 : wr.cell? ⟨g, 2, none⟩ = some (.slice (some ad) Ts.length c) := (blk_cell BP.out 2).trans rfl; have hp3 : wr.cell? ⟨g, 3, none⟩ = some (.slice (some ad2) Ls.length c2) := (blk_cell BP.out 3).trans rfl
            have x0 : wr.cell? ⟨gx, 0, none⟩ = some (.int .i64 y.f0) := (blk_cell BX.out 0).trans rfl
            by_cases hk1 : k < Ts.length
            · obtain ⟨z, hz⟩ : ∃ z, Ts[k]? = some z := ⟨_, List.getElem?_eq_getElem hk1⟩
              obtain ⟨ad_, had, -, -, r2, -, -, -, -, r7⟩ := at_T71 hC.out (k : Int) (by omega) (by omega)
              obtain rfl := Option.some.inj had
              simp only [Int.toNat_natCast, impl_Sched_thread.rd hz] at r2 r7
              replace r2 := pw_cell_below HB.out r2
              replace r7 := pw_cell_below HB.out r7
              have b0 : (0 ≤ (k : Int)) = True := eq_true (by omega)
              have b1 : ((k : Int) < (Ts.length : Int)) = True := eq_true (by omega)
              have b2 : (k < Ts.length) = True := eq_true hk1
              have hlast := hcm.out
              have hw2 : IntKind.i64.wrap ((k : Int) + 1) = ((k + 1 : Nat) : Int) := by rw [IntKind.wrap_i64]; omega
              have HA4 : Aside0 (((if z.f2 = 2 then (if z.f7 = y.f0 then (impl_Sched_prio.go n_ Ts Ls d k).bind fun r => impl_Sched_prio.lp (impl_Sched_prio.go n_ Ts Ls d) y.f0 (Ts.drop (k + 1)) (k + 1) (max p r) else impl_Sched_prio.lp (impl_Sched_prio.go n_ Ts Ls d) y.f0 (Ts.drop (k + 1)) (k + 1) p) else impl_Sched_prio.lp (impl_Sched_prio.go n_ Ts Ls d) y.f0 (Ts.drop (k + 1)) (k + 1) p).bind fun p2 => impl_Sched_prio.lq (impl_Sched_prio.go n_ Ts Ls d) Ts x.f0 (Ls.drop (j + 1)) p2) = some r) := ⟨by rw [← impl_Sched_prio.lp_at _ _ _ hz]; exact HA3.out⟩
              have hk2 := Aside0.mk hk1
              clear hz HA3 hlast had hk1
              by_cases s2 : z.f2 = 2
              · have f2 : (z.f2 == 2) = true := by simp [s2]
                by_cases s7 : z.f7 = y.f0
                · have f7 : (z.f7 == y.f0) = true := by simp [s7]
                  have HA5 := HA4.out
                  rw [if_pos s2, if_pos s7] at HA5
                  clear HA4 s2 s7
                  obtain ⟨r1, hr1⟩ : ∃ r1, impl_Sched_prio.go n_ Ts Ls d k = some r1 := by
                    cases he : impl_Sched_prio.go n_ Ts Ls d k with
                    | none => rw [he] at HA5; cases HA5
                    | some r1 => exact ⟨r1, rfl⟩
                  rw [hr1, Option.bind_some] at HA5
                  have HA6 := Aside0.mk HA5
                  have hgo := Aside0.mk hr1
                  clear HA5 hr1
                  go_upto_region 12 with fail
                  go_quiet (fail)
                  clear r2 r7 f2 x0 hp0 hp2 hp3 b0 b1 b2
                  generalize hw1_ : World.drewN _ _ = w8; have n_ : Aside0 (Below w.heap.size w w8) := ⟨by rw [← hw1_]; exact pw_below_drewN HB.out _⟩; clear HB; have HB := n_; clear n_; have n_ : Aside0 (w8.heap[g]? = some (.cells #[.int .i64 n_, .int .i64 q_, .slice (some ad) Ts.length c, .slice (some ad2) Ls.length c2] 31 (0, 0))) := ⟨by rw [← hw1_]; exact blk_drewN BP.out _⟩; clear BP; have BP := n_; clear n_
                  have n_ : Aside0 (w8.heap[gx]? = some (.cells #[.int .i64 y.f0, .int .i64 y.f1] 68 (0, 0))) := ⟨by rw [← hw1_]; exact blk_drewN BX.out _⟩; clear BX hw1_; have BX := n_; clear n_
                  go_wp2_with (first | (go_at_call 46; refine (ih.out k r1 _ BP.out (Kd.C_below hC.out HB.out) (Kd.C_below hC2.out HB.out) hk2.out hgo.out).mono ?_; rintro e w9 ⟨rfl, hB_⟩; have n_ := Aside0.mk (blk_below BP.out hB_); clear BP; have BP := n_; clear n_; have n_ := Aside0.mk (blk_below BX.out hB_); clear BX; have BX := n_; clear n_; have n_ := Aside0.mk (below_step HB.out hB_); clear HB hB_; have HB := n_; clear n_))
                  all_goals
                    go_roundg (Ts.length - (k + 1))
                    case measure => have := hkk.out; have := hk2.out; omega
                    case rel => exact ⟨_, k + 1, rfl, by first | rfl | (simp; done) | (simp [*]; done), ⟨by have := hk2.out; omega⟩, ⟨by have this := HA6.out; first | (rw [Int.max_eq_right (by omega)] at this; exact this) | (rw [Int.max_eq_left (by omega)] at this; exact this)⟩, BP, BX, HB⟩
                · have f7 : (z.f7 == y.f0) = false := by simp [s7]
                  have HA5 : Aside0 (((impl_Sched_prio.lp (impl_Sched_prio.go n_ Ts Ls d) y.f0 (Ts.drop (k + 1)) (k + 1) p).bind fun p2 => impl_Sched_prio.lq (impl_Sched_prio.go n_ Ts Ls d) Ts x.f0 (Ls.drop (j + 1)) p2) = some r) := ⟨by have := HA4.out; rw [if_pos s2, if_neg s7] at this; exact this⟩
                  clear HA4 s2 s7
                  go_upto_region 12 with fail
                  go_quiet (fail)
                  clear r2 r7 f2 x0 hp0 hp2 hp3 b0 b1 b2
                  generalize hw1_ : World.drewN _ _ = w8; have n_ : Aside0 (Below w.heap.size w w8) := ⟨by rw [← hw1_]; exact pw_below_drewN HB.out _⟩; clear HB; have HB := n_; clear n_; have n_ : Aside0 (w8.heap[g]? = some (.cells #[.int .i64 n_, .int .i64 q_, .slice (some ad) Ts.length c, .slice (some ad2) Ls.length c2] 31 (0, 0))) := ⟨by rw [← hw1_]; exact blk_drewN BP.out _⟩; clear BP; have BP := n_; clear n_
                  have n_ : Aside0 (w8.heap[gx]? = some (.cells #[.int .i64 y.f0, .int .i64 y.f1] 68 (0, 0))) := ⟨by rw [← hw1_]; exact blk_drewN BX.out _⟩; clear BX hw1_; have BX := n_; clear n_
                  go_wp2
                  go_roundg (Ts.length - (k + 1))
                  case measure => have := hkk.out; have := hk2.out; omega
                  case rel => exact ⟨p, k + 1, by first | rfl | (simp; done) | (simp [*]; done), by first | rfl | (simp; done) | (simp [*]; done), ⟨by have := hk2.out; omega⟩, HA5, BP, BX, HB⟩
              · have f2 : (z.f2 == 2) = false := by simp [s2]
                have HA5 : Aside0 (((impl_Sched_prio.lp (impl_Sched_prio.go n_ Ts Ls d) y.f0 (Ts.drop (k + 1)) (k + 1) p).bind fun p2 => impl_Sched_prio.lq (impl_Sched_prio.go n_ Ts Ls d) Ts x.f0 (Ls.drop (j + 1)) p2) = some r) := ⟨by have := HA4.out; rw [if_neg s2] at this; exact this⟩
                clear HA4 s2
                go_upto_region 12 with fail
                go_quiet (fail)
                clear r2 r7 f2 x0 hp0 hp2 hp3 b0 b1 b2
                generalize hw1_ : World.drewN _ _ = w8; have n_ : Aside0 (Below w.heap.size w w8) := ⟨by rw [← hw1_]; exact pw_below_drewN HB.out _⟩; clear HB; have HB := n_; clear n_; have n_ : Aside0 (w8.heap[g]? = some (.cells #[.int .i64 n_, .int .i64 q_, .slice (some ad) Ts.length c, .slice (some ad2) Ls.length c2] 31 (0, 0))) := ⟨by rw [← hw1_]; exact blk_drewN BP.out _⟩; clear BP; have BP := n_; clear n_
                have n_ : Aside0 (w8.heap[gx]? = some (.cells #[.int .i64 y.f0, .int .i64 y.f1] 68 (0, 0))) := ⟨by rw [← hw1_]; exact blk_drewN BX.out _⟩; clear BX hw1_; have BX := n_; clear n_
                go_wp2
                go_roundg (Ts.length - (k + 1))
                case measure => have := hkk.out; have := hk2.out; omega
                case rel => exact ⟨p, k + 1, by first | rfl | (simp; done) | (simp [*]; done), by first | rfl | (simp; done) | (simp [*]; done), ⟨by have := hk2.out; omega⟩, HA5, BP, BX, HB⟩
            · have b2 : (k < Ts.length) = False := eq_false hk1
              have b3 : decide (k < Ts.length) = false := decide_eq_false hk1
              have HA4 : Aside0 (impl_Sched_prio.lq (impl_Sched_prio.go n_ Ts Ls d) Ts x.f0 (Ls.drop (j + 1)) p = some r) := ⟨by have := HA3.out; rw [List.drop_eq_nil_of_le (by omega), impl_Sched_prio.lp, Option.bind_some] at this; exact this⟩
              clear HA3 hkk hk1
              go_wp2
              go_roundg (Ls.length - (j + 1))
              case measure => have := hk.out; have := hj.out; omega
              case rel => exact ⟨p, j + 1, by first | rfl | (simp; done) | (simp [*]; done), by first | rfl | (simp; done) | (simp [*]; done), ⟨by have := hj.out; omega⟩, HA4, BP, HB⟩
        · have f1 : (y.f1 != x.f0) = true := by simp [c1]
          have HA3 : Aside0 (impl_Sched_prio.lq (impl_Sched_prio.go n_ Ts Ls d) Ts x.f0 (Ls.drop (j + 1)) p = some r) := ⟨by have := HA2.out; rw [if_neg c1] at this; exact this⟩
          clear HA2 c1
          go_quiet (fail)
          clear f1 h0_ x0 x1 hp0 hp2 hp3
          generalize hw1_ : World.drewN _ _ = w7; have n_ : Aside0 (Below w.heap.size w w7) := ⟨by rw [← hw1_]; exact pw_below_drewN HB.out _⟩; clear HB; have HB := n_; clear n_; have n_ : Aside0 (w7.heap[g]? = some (.cells #[.int .i64 n_, .int .i64 q_, .slice (some ad) Ts.length c, .slice (some ad2) Ls.length c2] 31 (0, 0))) := ⟨by rw [← hw1_]; exact blk_drewN BP.out _⟩; clear BP; have BP := n_; clear n_
          clear hw1_
          go_wp2
          go_roundg (Ls.length - (j + 1))
          case measure => have := hk.out; have := hj.out; omega
          case rel => exact ⟨p, j + 1, by first | rfl | (simp; done) | (simp [*]; done), by first | rfl | (simp; done) | (simp [*]; done), ⟨by have := hj.out; omega⟩, HA3, BP, HB⟩
      · have b2 : (j < Ls.length) = False := eq_false hj
        have b3 : decide (j < Ls.length) = false := decide_eq_false hj
        have HA2 : Aside0 (p = r) := ⟨by have := HA1.out; rw [List.drop_eq_nil_of_le (by omega), impl_Sched_prio.lq] at this; exact Option.some.inj this⟩
        clear HA1 hk hj
        go_wp2
        go_ret
        exact ⟨by rw [HA2.out]; rfl, HB.out⟩
  · have f1 : (x.f2 == 1) = false := by simp [s1]
    have how1 : x.f1 = ow := by have := how.out; unfold impl_Sched_prio.own at this; rw [if_neg s1] at this; exact this
    clear s1 how
    subst how1
    go_enter Try.func46, Try.ntmps46
    go_upto_region 4 with fail
    clear f1 h1 h2 h5 hg0
    go_wp2
    go_loopg [5, 37] Ls.length (fun kq v5 v37 wr => ∃ (p : Int) (j : Nat), v5 = .int .i64 p ∧ v37 = .int .i64 (j : Int) ∧ Aside0 (j + kq = Ls.length) ∧ Aside0 (impl_Sched_prio.lq (impl_Sched_prio.go n_ Ts Ls d) Ts x.f0 (Ls.drop j) p = some r) ∧ Aside0 (wr.heap[g]? = some (.cells #[.int .i64 n_, .int .i64 q_, .slice (some ad) Ts.length c, .slice A2 Ls.length c2] 31 (0, 0))) ∧ Aside0 (Below w.heap.size w wr))
    case atStart => exact ⟨x.f1, 0, rfl, rfl, ⟨by omega⟩, ⟨by rw [List.drop_zero]; exact HA1.out⟩, BP, HB⟩
    case round =>
      clear BP HB HA1 hg3
      obtain ⟨p, j, rfl, rfl, hk, HA1, BP, HB⟩ := hrel
      have hp0 : wr.cell? ⟨g, 0, none⟩ = some (.int .i64 n_) := (blk_cell BP.out 0).trans rfl; have hp2 : wr.cell? ⟨g, 2, none⟩ = some (.slice (some ad) Ts.length c) := (blk_cell BP.out 2).trans rfl; have hp3 : wr.cell? ⟨g, 3, none⟩ = some (.slice A2 Ls.length c2) := (blk_cell BP.out 3).trans rfl
      by_cases hj : j < Ls.length
      · obtain ⟨y, hy⟩ : ∃ y, Ls[j]? = some y := ⟨_, List.getElem?_eq_getElem hj⟩
        obtain ⟨ad2, rfl, q0, q1⟩ := at_T68 hC2.out (j : Int) (by omega) (by omega)
        simp only [Int.toNat_natCast, impl_Sched_lock.rd hy] at q0 q1
        have b0 : (0 ≤ (j : Int)) = True := eq_true (by omega)
        have b1 : ((j : Int) < (Ls.length : Int)) = True := eq_true (by omega)
        have b2 : (j < Ls.length) = True := eq_true hj
        have hlast := hcm2.out
        have hw : IntKind.i64.wrap ((j : Int) + 1) = ((j + 1 : Nat) : Int) := by rw [IntKind.wrap_i64]; omega
        have HA2 : Aside0 ((if y.f1 = x.f0 then (impl_Sched_prio.lp (impl_Sched_prio.go n_ Ts Ls d) y.f0 Ts 0 p).bind fun p2 => impl_Sched_prio.lq (impl_Sched_prio.go n_ Ts Ls d) Ts x.f0 (Ls.drop (j + 1)) p2 else impl_Sched_prio.lq (impl_Sched_prio.go n_ Ts Ls d) Ts x.f0 (Ls.drop (j + 1)) p) = some r) := ⟨by rw [← impl_Sched_prio.lq_at _ _ _ _ hy]; exact HA1.out⟩
        replace q0 := pw_cell_below HB.out q0
        replace q1 := pw_cell_below HB.out q1
        have hj_ := Aside0.mk hj
        clear hy HA1 hlast hj
        have hj := hj_
        clear hj_
        go_upto_region 7 with (first | ((with_reducible refine gate_dst (N := 7) rfl ?_); refine box_event ?hg (N := 7) ?hd (cs := #[.int .i64 0, .int .i64 0]) (t := 68) ?hr ?_; (case hd => rfl); (case hg => rfl); (case hr => first | (go_simp; done) | (go_simp; rfl)); intro gx hgq w4 hbq hB_; have GX := Aside0.mk (show w.heap.size ≤ gx by rw [hgq]; exact HB.out.size); have NX := Aside0.mk (show g ≠ gx by rw [hgq]; exact Nat.ne_of_lt (blk_lt BP.out)); have n_ := Aside0.mk (blk_below BP.out hB_); clear BP; have BP := n_; clear n_; have hp0 : w4.cell? ⟨g, 0, none⟩ = some (.int .i64 n_) := (blk_cell BP.out 0).trans rfl; have hp2 : w4.cell? ⟨g, 2, none⟩ = some (.slice (some ad) Ts.length c) := (blk_cell BP.out 2).trans rfl; have hp3 : w4.cell? ⟨g, 3, none⟩ = some (.slice (some ad2) Ls.length c2) := (blk_cell BP.out 3).trans rfl; have n_ := Aside0.mk (below_step HB.out hB_); clear HB hB_; have HB := n_; clear n_; have BX := Aside0.mk hbq; clear hbq hgq) | ((with_reducible refine gate_store (t := 68) (p := 7) rfl ?_); refine wpList_store_row rfl 68 (.tmp 7) (.tmp 40) rfl gx #[.int .i64 y.f0, .int .i64 y.f1] rfl rfl 68 _ BX.out (by kernel_rfl) rfl (by simp [Value.oneCell']) ?_; generalize hw : World.setRow _ _ _ = w5; have n_ : Aside0 (w5.heap[gx]? = some (.cells #[.int .i64 y.f0, .int .i64 y.f1] 68 (0, 0))) := ⟨by rw [← hw]; exact setRow_heap _ _ _ _ _ _ BX.out⟩; clear BX; have BX := n_; clear n_; have n_ : Aside0 (w5.heap[g]? = some (.cells #[.int .i64 n_, .int .i64 q_, .slice (some ad) Ts.length c, .slice (some ad2) Ls.length c2] 31 (0, 0))) := ⟨by rw [← hw]; exact (setRow_other _ _ _ _ NX.out).trans BP.out⟩; clear BP hp0 hp2 hp3; have BP := n_; clear n_; have hp0 : w5.cell? ⟨g, 0, none⟩ = some (.int .i64 n_) := (blk_cell BP.out 0).trans rfl; have hp2 : w5.cell? ⟨g, 2, none⟩ = some (.slice (some ad) Ts.length c) := (blk_cell BP.out 2).trans rfl; have hp3 : w5.cell? ⟨g, 3, none⟩ = some (.slice (some ad2) Ls.length c2) := (blk_cell BP.out 3).trans rfl; have n_ : Aside0 (Below w.heap.size w w5) := ⟨by rw [← hw]; exact below_setRow HB.out GX.out _⟩; clear HB hw; have HB := n_; clear n_; clear q0 q1))
        clear b0 b1 b2
        have x0 : w5.cell? ⟨gx, 0, none⟩ = some (.int .i64 y.f0) := (blk_cell BX.out 0).trans rfl
        have x1 : w5.cell? ⟨gx, 1, none⟩ = some (.int .i64 y.f1) := (blk_cell BX.out 1).trans rfl
        have h0_ := pw_cell_below HB.out h0
        by_cases c1 : y.f1 = x.f0
        · have f1 : (y.f1 != x.f0) = false := by simp [c1]
          have HA3 : Aside0 (((impl_Sched_prio.lp (impl_Sched_prio.go n_ Ts Ls d) y.f0 Ts 0 p).bind fun p2 => impl_Sched_prio.lq (impl_Sched_prio.go n_ Ts Ls d) Ts x.f0 (Ls.drop (j + 1)) p2) = some r) := ⟨by have := HA2.out; rw [if_pos c1] at this; exact this⟩
          clear HA2 c1
          go_quiet (fail)
          clear f1 h0_ x0 x1 hp0 hp2 hp3
          generalize hw1_ : World.drewN _ _ = w7; have n_ : Aside0 (Below w.heap.size w w7) := ⟨by rw [← hw1_]; exact pw_below_drewN HB.out _⟩; clear HB; have HB := n_; clear n_; have n_ : Aside0 (w7.heap[g]? = some (.cells #[.int .i64 n_, .int .i64 q_, .slice (some ad) Ts.length c, .slice (some ad2) Ls.length c2] 31 (0, 0))) := ⟨by rw [← hw1_]; exact blk_drewN BP.out _⟩; clear BP; have BP := n_; clear n_
          have n_ : Aside0 (w7.heap[gx]? = some (.cells #[.int .i64 y.f0, .int .i64 y.f1] 68 (0, 0))) := ⟨by rw [← hw1_]; exact blk_drewN BX.out _⟩; clear BX hw1_; have BX := n_; clear n_
          have hp0 : w7.cell? ⟨g, 0, none⟩ = some (.int .i64 n_) := (blk_cell BP.out 0).trans rfl; have hp2 : w7.cell? ⟨g, 2, none⟩ = some (.slice (some ad) Ts.length c) := (blk_cell BP.out 2).trans rfl; have hp3 : w7.cell? ⟨g, 3, none⟩ = some (.slice (some ad2) Ls.length c2) := (blk_cell BP.out 3).trans rfl
          go_upto_region 9 with fail
          go_loopg [5, 53] Ts.length (fun kq v5 v53 wr2 => ∃ (p : Int) (k : Nat), v5 = .int .i64 p ∧ v53 = .int .i64 (k : Int) ∧ Aside0 (k + kq = Ts.length) ∧ Aside0 (((impl_Sched_prio.lp (impl_Sched_prio.go n_ Ts Ls d) y.f0 (Ts.drop k) k p).bind fun p2 => impl_Sched_prio.lq (impl_Sched_prio.go n_ Ts Ls d) Ts x.f0 (Ls.drop (j + 1)) p2) = some r) ∧ Aside0 (wr2.heap[g]? = some (.cells #[.int .i64 n_, .int .i64 q_, .slice (some ad) Ts.length c, .slice (some ad2) Ls.length c2] 31 (0, 0))) ∧ Aside0 (wr2.heap[gx]? = some (.cells #[.int .i64 y.f0, .int .i64 y.f1] 68 (0, 0))) ∧ Aside0 (Below w.heap.size w wr2))
          case atStart => exact ⟨p, 0, rfl, rfl, ⟨by omega⟩, ⟨by rw [List.drop_zero]; exact HA3.out⟩, BP, BX, HB⟩
          case round =>
            clear BP HB BX HA3 hp0 hp2 hp3
            obtain ⟨p, k, rfl, rfl, hkk, HA3, BP, BX, HB⟩ := hrel
            have hp0 : wr.cell? ⟨g, 0, none⟩ = some (.int .i64 n_) := (blk_cell BP.out 0).trans rfl; have hp2 : wr.cell? ⟨g, 2, none⟩ = some (.slice (some ad) Ts.length c) := (blk_cell BP.out 2).trans rfl; have hp3 : wr.cell? ⟨g, 3, none⟩ = some (.slice (some ad2) Ls.length c2) := (blk_cell BP.out 3).trans rfl
            have x0 : wr.cell? ⟨gx, 0, none⟩ = some (.int .i64 y.f0) := (blk_cell BX.out 0).trans rfl
            by_cases hk1 : k < Ts.length
            · obtain ⟨z, hz⟩ : ∃ z, Ts[k]? = some z := ⟨_, List.getElem?_eq_getElem hk1⟩
              obtain ⟨ad_, had, -, -, r2, -, -, -, -, r7⟩ := at_T71 hC.out (k : Int) (by omega) (by omega)
              obtain rfl := Option.some.inj had
              simp only [Int.toNat_natCast, impl_Sched_thread.rd hz] at r2 r7
              replace r2 := pw_cell_below HB.out r2
              replace r7 := pw_cell_below HB.out r7
              have b0 : (0 ≤ (k : Int)) = True := eq_true (by omega)
              have b1 : ((k : Int) < (Ts.length : Int)) = True := eq_true (by omega)
              have b2 : (k < Ts.length) = True := eq_true hk1
              have hlast := hcm.out
              have hw2 : IntKind.i64.wrap ((k : Int) + 1) = ((k + 1 : Nat) : Int) := by rw [IntKind.wrap_i64]; omega
              have HA4 : Aside0 (((if z.f2 = 2 then (if z.f7 = y.f0 then (impl_Sched_prio.go n_ Ts Ls d k).bind fun r => impl_Sched_prio.lp (impl_Sched_prio.go n_ Ts Ls d) y.f0 (Ts.drop (k + 1)) (k + 1) (max p r) else impl_Sched_prio.lp (impl_Sched_prio.go n_ Ts Ls d) y.f0 (Ts.drop (k + 1)) (k + 1) p) else impl_Sched_prio.lp (impl_Sched_prio.go n_ Ts Ls d) y.f0 (Ts.drop (k + 1)) (k + 1) p).bind fun p2 => impl_Sched_prio.lq (impl_Sched_prio.go n_ Ts Ls d) Ts x.f0 (Ls.drop (j + 1)) p2) = some r) := ⟨by rw [← impl_Sched_prio.lp_at _ _ _ hz]; exact HA3.out⟩
              have hk2 := Aside0.mk hk1
              clear hz HA3 hlast had hk1
              by_cases s2 : z.f2 = 2
              · have f2 : (z.f2 == 2) = true := by simp [s2]
                by_cases s7 : z.f7 = y.f0
                · have f7 : (z.f7 == y.f0) = true := by simp [s7]
                  have HA5 := HA4.out
                  rw [if_pos s2, if_pos s7] at HA5
                  clear HA4 s2 s7
                  obtain ⟨r1, hr1⟩ : ∃ r1, impl_Sched_prio.go n_ Ts Ls d k = some r1 := by
                    cases he : impl_Sched_prio.go n_ Ts Ls d k with
                    | none => rw [he] at HA5; cases HA5
                    | some r1 => exact ⟨r1, rfl⟩
                  rw [hr1, Option.bind_some] at HA5
                  have HA6 := Aside0.mk HA5
                  have hgo := Aside0.mk hr1
                  clear HA5 hr1
                  go_upto_region 12 with fail
                  go_quiet (fail)
                  clear r2 r7 f2 x0 hp0 hp2 hp3 b0 b1 b2
                  generalize hw1_ : World.drewN _ _ = w8; have n_ : Aside0 (Below w.heap.size w w8) := ⟨by rw [← hw1_]; exact pw_below_drewN HB.out _⟩; clear HB; have HB := n_; clear n_; have n_ : Aside0 (w8.heap[g]? = some (.cells #[.int .i64 n_, .int .i64 q_, .slice (some ad) Ts.length c, .slice (some ad2) Ls.length c2] 31 (0, 0))) := ⟨by rw [← hw1_]; exact blk_drewN BP.out _⟩; clear BP; have BP := n_; clear n_
                  have n_ : Aside0 (w8.heap[gx]? = some (.cells #[.int .i64 y.f0, .int .i64 y.f1] 68 (0, 0))) := ⟨by rw [← hw1_]; exact blk_drewN BX.out _⟩; clear BX hw1_; have BX := n_; clear n_
                  go_wp2_with (first | (go_at_call 46; refine (ih.out k r1 _ BP.out (Kd.C_below hC.out HB.out) (Kd.C_below hC2.out HB.out) hk2.out hgo.out).mono ?_; rintro e w9 ⟨rfl, hB_⟩; have n_ := Aside0.mk (blk_below BP.out hB_); clear BP; have BP := n_; clear n_; have n_ := Aside0.mk (blk_below BX.out hB_); clear BX; have BX := n_; clear n_; have n_ := Aside0.mk (below_step HB.out hB_); clear HB hB_; have HB := n_; clear n_))
                  all_goals
                    go_roundg (Ts.length - (k + 1))
                    case measure => have := hkk.out; have := hk2.out; omega
                    case rel => exact ⟨_, k + 1, rfl, by first | rfl | (simp; done) | (simp [*]; done), ⟨by have := hk2.out; omega⟩, ⟨by have this := HA6.out; first | (rw [Int.max_eq_right (by omega)] at this; exact this) | (rw [Int.max_eq_left (by omega)] at this; exact this)⟩, BP, BX, HB⟩
                · have f7 : (z.f7 == y.f0) = false := by simp [s7]
                  have HA5 : Aside0 (((impl_Sched_prio.lp (impl_Sched_prio.go n_ Ts Ls d) y.f0 (Ts.drop (k + 1)) (k + 1) p).bind fun p2 => impl_Sched_prio.lq (impl_Sched_prio.go n_ Ts Ls d) Ts x.f0 (Ls.drop (j + 1)) p2) = some r) := ⟨by have := HA4.out; rw [if_pos s2, if_neg s7] at this; exact this⟩
                  clear HA4 s2 s7
                  go_upto_region 12 with fail
                  go_quiet (fail)
                  clear r2 r7 f2 x0 hp0 hp2 hp3 b0 b1 b2
                  generalize hw1_ : World.drewN _ _ = w8; have n_ : Aside0 (Below w.heap.size w w8) := ⟨by rw [← hw1_]; exact pw_below_drewN HB.out _⟩; clear HB; have HB := n_; clear n_; have n_ : Aside0 (w8.heap[g]? = some (.cells #[.int .i64 n_, .int .i64 q_, .slice (some ad) Ts.length c, .slice (some ad2) Ls.length c2] 31 (0, 0))) := ⟨by rw [← hw1_]; exact blk_drewN BP.out _⟩; clear BP; have BP := n_; clear n_
                  have n_ : Aside0 (w8.heap[gx]? = some (.cells #[.int .i64 y.f0, .int .i64 y.f1] 68 (0, 0))) := ⟨by rw [← hw1_]; exact blk_drewN BX.out _⟩; clear BX hw1_; have BX := n_; clear n_
                  go_wp2
                  go_roundg (Ts.length - (k + 1))
                  case measure => have := hkk.out; have := hk2.out; omega
                  case rel => exact ⟨p, k + 1, by first | rfl | (simp; done) | (simp [*]; done), by first | rfl | (simp; done) | (simp [*]; done), ⟨by have := hk2.out; omega⟩, HA5, BP, BX, HB⟩
              · have f2 : (z.f2 == 2) = false := by simp [s2]
                have HA5 : Aside0 (((impl_Sched_prio.lp (impl_Sched_prio.go n_ Ts Ls d) y.f0 (Ts.drop (k + 1)) (k + 1) p).bind fun p2 => impl_Sched_prio.lq (impl_Sched_prio.go n_ Ts Ls d) Ts x.f0 (Ls.drop (j + 1)) p2) = some r) := ⟨by have := HA4.out; rw [if_neg s2] at this; exact this⟩
                clear HA4 s2
                go_upto_region 12 with fail
                go_quiet (fail)
                clear r2 r7 f2 x0 hp0 hp2 hp3 b0 b1 b2
                generalize hw1_ : World.drewN _ _ = w8; have n_ : Aside0 (Below w.heap.size w w8) := ⟨by rw [← hw1_]; exact pw_below_drewN HB.out _⟩; clear HB; have HB := n_; clear n_; have n_ : Aside0 (w8.heap[g]? = some (.cells #[.int .i64 n_, .int .i64 q_, .slice (some ad) Ts.length c, .slice (some ad2) Ls.length c2] 31 (0, 0))) := ⟨by rw [← hw1_]; exact blk_drewN BP.out _⟩; clear BP; have BP := n_; clear n_
                have n_ : Aside0 (w8.heap[gx]? = some (.cells #[.int .i64 y.f0, .int .i64 y.f1] 68 (0, 0))) := ⟨by rw [← hw1_]; exact blk_drewN BX.out _⟩; clear BX hw1_; have BX := n_; clear n_
                go_wp2
                go_roundg (Ts.length - (k + 1))
                case measure => have := hkk.out; have := hk2.out; omega
                case rel => exact ⟨p, k + 1, by first | rfl | (simp; done) | (simp [*]; done), by first | rfl | (simp; done) | (simp [*]; done), ⟨by have := hk2.out; omega⟩, HA5, BP, BX, HB⟩
            · have b2 : (k < Ts.length) = False := eq_false hk1
              have b3 : decide (k < Ts.length) = false := decide_eq_false hk1
              have HA4 : Aside0 (impl_Sched_prio.lq (impl_Sched_prio.go n_ Ts Ls d) Ts x.f0 (Ls.drop (j + 1)) p = some r) := ⟨by have := HA3.out; rw [List.drop_eq_nil_of_le (by omega), impl_Sched_prio.lp, Option.bind_some] at this; exact this⟩
              clear HA3 hkk hk1
              go_wp2
              go_roundg (Ls.length - (j + 1))
              case measure => have := hk.out; have := hj.out; omega
              case rel => exact ⟨p, j + 1, by first | rfl | (simp; done) | (simp [*]; done), by first | rfl | (simp; done) | (simp [*]; done), ⟨by have := hj.out; omega⟩, HA4, BP, HB⟩
        · have f1 : (y.f1 != x.f0) = true := by simp [c1]
          have HA3 : Aside0 (impl_Sched_prio.lq (impl_Sched_prio.go n_ Ts Ls d) Ts x.f0 (Ls.drop (j + 1)) p = some r) := ⟨by have := HA2.out; rw [if_neg c1] at this; exact this⟩
          clear HA2 c1
          go_quiet (fail)
          clear f1 h0_ x0 x1 hp0 hp2 hp3
          generalize hw1_ : World.drewN _ _ = w7; have n_ : Aside0 (Below w.heap.size w w7) := ⟨by rw [← hw1_]; exact pw_below_drewN HB.out _⟩; clear HB; have HB := n_; clear n_; have n_ : Aside0 (w7.heap[g]? = some (.cells #[.int .i64 n_, .int .i64 q_, .slice (some ad) Ts.length c, .slice (some ad2) Ls.length c2] 31 (0, 0))) := ⟨by rw [← hw1_]; exact blk_drewN BP.out _⟩; clear BP; have BP := n_; clear n_
          clear hw1_
          go_wp2
          go_roundg (Ls.length - (j + 1))
          case measure => have := hk.out; have := hj.out; omega
          case rel => exact ⟨p, j + 1, by first | rfl | (simp; done) | (simp [*]; done), by first | rfl | (simp; done) | (simp [*]; done), ⟨by have := hj.out; omega⟩, HA3, BP, HB⟩
      · have b2 : (j < Ls.length) = False := eq_false hj
        have b3 : decide (j < Ls.length) = false := decide_eq_false hj
        have HA2 : Aside0 (p = r) := ⟨by have := HA1.out; rw [List.drop_eq_nil_of_le (by omega), impl_Sched_prio.lq] at this; exact Option.some.inj this⟩
        clear HA1 hk hj
        go_wp2
        go_ret
        exact ⟨by rw [HA2.out]; rfl, HB.out⟩
def impl_Priority.f (n_ q_ : Int) (Ts : List S71) (Ls : List S68) (id : Int) : Option Int :=
  if impl_SchedOk.ok n_ q_ Ts Ls = false then some (-1) else match impl_Sched_thread.idx id Ts 0 with
  | none => some (-1)
  | some i => impl_Sched_prio.go n_ Ts Ls 33 i
theorem impl_SchedOk.short {n_ q_ : Int} {Ts : List S71} {Ls : List S68} (h : impl_SchedOk.ok n_ q_ Ts Ls = true) : Ts.length ≤ 32 ∧ Ls.length ≤ 16 := by
  unfold impl_SchedOk.ok at h
  simp only [Bool.and_eq_true, decide_eq_true_eq] at h
  obtain ⟨⟨⟨⟨⟨⟨⟨⟨a1, a2⟩, a3⟩, a4⟩, a5⟩, a6⟩, a7⟩, a8⟩, a9⟩ := h
  exact ⟨a5, a6⟩
set_option maxHeartbeats 8000000 in
set_option maxRecDepth 100000 in
theorem impl_Priority.calls (n_ q_ : Int) (A : Option Addr) (c : Nat) (Ts : List S71) (A2 : Option Addr) (c2 : Nat) (Ls : List S68) (id : Int) (r : Int) (w : World) (hC0 : Kd.C k71 w A Ts.length Ts) (hc0 : Ts.length ≤ c) (hC20 : Kd.C k68 w A2 Ls.length Ls) (hc20 : Ls.length ≤ c2) (h : impl_Priority.f n_ q_ Ts Ls id = some r) :
    Calls Try.prog 15 #[.agg #[.int .i64 n_, .int .i64 q_, .slice A Ts.length c, .slice A2 Ls.length c2], .int .i64 id] w fun e w' => e = .returned (.int .i64 r) ∧ Below w.heap.size w w' := by
  have hC := Aside0.mk hC0
  have hC2 := Aside0.mk hC20
  have hcl := Aside0.mk hc0
  have hcl2 := Aside0.mk hc20
  clear hC0 hc0 hC20 hc20
  have H := Aside0.mk h
  clear h
  obtain ⟨b, hOk⟩ : ∃ b, Aside0 (impl_SchedOk.ok n_ q_ Ts Ls = b) := ⟨_, ⟨rfl⟩⟩
  cases b with
  | false =>
    have HA : Aside0 (r = -1) := ⟨by have := H.out; unfold impl_Priority.f at this; rw [if_pos hOk.out] at this; exact (Option.some.inj this).symm⟩
    clear H
    go_enter Try.func15, Try.ntmps15
    go_wp2_with (first | ((with_reducible refine gate_dst (N := 2) rfl ?_); refine box_event ?hg (N := 2) ?hd (cs := #[.int .i64 n_, .int .i64 q_, .slice A Ts.length c, .slice A2 Ls.length c2]) (t := 31) ?hr ?_; (case hd => rfl); (case hg => rfl); (case hr => first | (go_simp; done) | (go_simp; rfl)); intro gp hgq w3 hbq hB_; have GP := Aside0.mk (show w.heap.size ≤ gp from Nat.le_of_eq hgq.symm); have BP := Aside0.mk hbq; have HB := Aside0.mk hB_; clear hbq hgq hB_; have hp0 : w3.cell? ⟨gp, 0, none⟩ = some (.int .i64 n_) := (blk_cell BP.out 0).trans rfl; have hp1 : w3.cell? ⟨gp, 1, none⟩ = some (.int .i64 q_) := (blk_cell BP.out 1).trans rfl; have hp2 : w3.cell? ⟨gp, 2, none⟩ = some (.slice A Ts.length c) := (blk_cell BP.out 2).trans rfl; have hp3 : w3.cell? ⟨gp, 3, none⟩ = some (.slice A2 Ls.length c2) := (blk_cell BP.out 3).trans rfl) | (go_at_call 12; refine (impl_SchedOk.calls n_ q_ _ c Ts _ c2 Ls false _ (Kd.C_below hC.out HB.out) hcl.out (Kd.C_below hC2.out HB.out) hcl2.out (by unfold impl_SchedOk.f; rw [hOk.out])).mono ?_; rintro e w4 ⟨rfl, hB_⟩; have n_ := Aside0.mk (blk_below BP.out hB_); clear BP hp0 hp1 hp2 hp3; have BP := n_; clear n_; have hp0 : w4.cell? ⟨gp, 0, none⟩ = some (.int .i64 n_) := (blk_cell BP.out 0).trans rfl; have hp1 : w4.cell? ⟨gp, 1, none⟩ = some (.int .i64 q_) := (blk_cell BP.out 1).trans rfl; have hp2 : w4.cell? ⟨gp, 2, none⟩ = some (.slice A Ts.length c) := (blk_cell BP.out 2).trans rfl; have hp3 : w4.cell? ⟨gp, 3, none⟩ = some (.slice A2 Ls.length c2) := (blk_cell BP.out 3).trans rfl; have n_ := Aside0.mk (below_step HB.out hB_); clear HB hB_; have HB := n_; clear n_))
    go_ret
    exact ⟨by rw [HA.out]; rfl, HB.out⟩
  | true =>
    have hl32 := Aside0.mk (impl_SchedOk.short hOk.out).1
    have hl16 := Aside0.mk (impl_SchedOk.short hOk.out).2
    have hlm1 : Aside0 (Ts.length ≤ 9223372036854775807) := ⟨by have := hl32.out; omega⟩
    have H2 : Aside0 ((match impl_Sched_thread.idx id Ts 0 with | none => some (-1) | some i => impl_Sched_prio.go n_ Ts Ls 33 i) = some r) := ⟨by have := H.out; unfold impl_Priority.f at this; rw [if_neg (by rw [hOk.out]; simp)] at this; exact this⟩
    clear H
    obtain ⟨oj, hj⟩ : ∃ oj, Aside0 (impl_Sched_thread.idx id Ts 0 = oj) := ⟨_, ⟨rfl⟩⟩
    cases oj with
    | none =>
      have HA : Aside0 (r = -1) := ⟨by have := H2.out; rw [hj.out] at this; exact (Option.some.inj this).symm⟩
      clear H2
      go_enter Try.func15, Try.ntmps15
      go_wp2_with (first | ((with_reducible refine gate_dst (N := 2) rfl ?_); refine box_event ?hg (N := 2) ?hd (cs := #[.int .i64 n_, .int .i64 q_, .slice A Ts.length c, .slice A2 Ls.length c2]) (t := 31) ?hr ?_; (case hd => rfl); (case hg => rfl); (case hr => first | (go_simp; done) | (go_simp; rfl)); intro gp hgq w3 hbq hB_; have GP := Aside0.mk (show w.heap.size ≤ gp from Nat.le_of_eq hgq.symm); have BP := Aside0.mk hbq; have HB := Aside0.mk hB_; clear hbq hgq hB_; have hp0 : w3.cell? ⟨gp, 0, none⟩ = some (.int .i64 n_) := (blk_cell BP.out 0).trans rfl; have hp1 : w3.cell? ⟨gp, 1, none⟩ = some (.int .i64 q_) := (blk_cell BP.out 1).trans rfl; have hp2 : w3.cell? ⟨gp, 2, none⟩ = some (.slice A Ts.length c) := (blk_cell BP.out 2).trans rfl; have hp3 : w3.cell? ⟨gp, 3, none⟩ = some (.slice A2 Ls.length c2) := (blk_cell BP.out 3).trans rfl) | (go_at_call 12; refine (impl_SchedOk.calls n_ q_ _ c Ts _ c2 Ls true _ (Kd.C_below hC.out HB.out) hcl.out (Kd.C_below hC2.out HB.out) hcl2.out (by unfold impl_SchedOk.f; rw [hOk.out])).mono ?_; rintro e w4 ⟨rfl, hB_⟩; have n_ := Aside0.mk (blk_below BP.out hB_); clear BP hp0 hp1 hp2 hp3; have BP := n_; clear n_; have hp0 : w4.cell? ⟨gp, 0, none⟩ = some (.int .i64 n_) := (blk_cell BP.out 0).trans rfl; have hp1 : w4.cell? ⟨gp, 1, none⟩ = some (.int .i64 q_) := (blk_cell BP.out 1).trans rfl; have hp2 : w4.cell? ⟨gp, 2, none⟩ = some (.slice A Ts.length c) := (blk_cell BP.out 2).trans rfl; have hp3 : w4.cell? ⟨gp, 3, none⟩ = some (.slice A2 Ls.length c2) := (blk_cell BP.out 3).trans rfl; have n_ := Aside0.mk (below_step HB.out hB_); clear HB hB_; have HB := n_; clear n_) | (go_at_call 41; refine (impl_Sched_thread.calls gp n_ q_ _ _ c Ts id _ BP.out (Kd.C_below hC.out HB.out) hlm1.out).mono ?_; rintro e w9 ⟨rfl, rfl⟩; rw [hj.out]; simp only [impl_Sched_thread.ptr, Option.map_some]))
      go_ret
      exact ⟨by rw [HA.out]; rfl, HB.out⟩
    | some i =>
      have hgo : Aside0 (impl_Sched_prio.go n_ Ts Ls 33 i = some r) := ⟨by have := H2.out; rw [hj.out] at this; exact this⟩
      clear H2
      have hil : Aside0 (i < Ts.length) := ⟨by have := impl_Sched_thread.idx_lt _ _ _ _ hj.out; omega⟩
      have hil_ := hil.out
      obtain ⟨ad, rfl, -⟩ := at_T71 hC.out (i : Int) (by omega) (by omega)
      clear hil_
      go_enter Try.func15, Try.ntmps15
      go_wp2_with (first | ((with_reducible refine gate_dst (N := 2) rfl ?_); refine box_event ?hg (N := 2) ?hd (cs := #[.int .i64 n_, .int .i64 q_, .slice (some ad) Ts.length c, .slice A2 Ls.length c2]) (t := 31) ?hr ?_; (case hd => rfl); (case hg => rfl); (case hr => first | (go_simp; done) | (go_simp; rfl)); intro gp hgq w3 hbq hB_; have GP := Aside0.mk (show w.heap.size ≤ gp from Nat.le_of_eq hgq.symm); have BP := Aside0.mk hbq; have HB := Aside0.mk hB_; clear hbq hgq hB_; have hp0 : w3.cell? ⟨gp, 0, none⟩ = some (.int .i64 n_) := (blk_cell BP.out 0).trans rfl; have hp1 : w3.cell? ⟨gp, 1, none⟩ = some (.int .i64 q_) := (blk_cell BP.out 1).trans rfl; have hp2 : w3.cell? ⟨gp, 2, none⟩ = some (.slice (some ad) Ts.length c) := (blk_cell BP.out 2).trans rfl; have hp3 : w3.cell? ⟨gp, 3, none⟩ = some (.slice A2 Ls.length c2) := (blk_cell BP.out 3).trans rfl) | (go_at_call 12; refine (impl_SchedOk.calls n_ q_ _ c Ts _ c2 Ls true _ (Kd.C_below hC.out HB.out) hcl.out (Kd.C_below hC2.out HB.out) hcl2.out (by unfold impl_SchedOk.f; rw [hOk.out])).mono ?_; rintro e w4 ⟨rfl, hB_⟩; have n_ := Aside0.mk (blk_below BP.out hB_); clear BP hp0 hp1 hp2 hp3; have BP := n_; clear n_; have hp0 : w4.cell? ⟨gp, 0, none⟩ = some (.int .i64 n_) := (blk_cell BP.out 0).trans rfl; have hp1 : w4.cell? ⟨gp, 1, none⟩ = some (.int .i64 q_) := (blk_cell BP.out 1).trans rfl; have hp2 : w4.cell? ⟨gp, 2, none⟩ = some (.slice (some ad) Ts.length c) := (blk_cell BP.out 2).trans rfl; have hp3 : w4.cell? ⟨gp, 3, none⟩ = some (.slice A2 Ls.length c2) := (blk_cell BP.out 3).trans rfl; have n_ := Aside0.mk (below_step HB.out hB_); clear HB hB_; have HB := n_; clear n_) | (go_at_call 41; refine (impl_Sched_thread.calls gp n_ q_ _ _ c Ts id _ BP.out (Kd.C_below hC.out HB.out) hlm1.out).mono ?_; rintro e w9 ⟨rfl, rfl⟩; rw [hj.out]; simp only [impl_Sched_thread.ptr, Option.map_some]) | (go_at_call 46; refine (impl_Sched_prio.calls gp n_ q_ ad c Ts _ c2 Ls hl32.out hl16.out 33 i r _ BP.out (Kd.C_below hC.out HB.out) (Kd.C_below hC2.out HB.out) hil.out hgo.out).mono ?_; rintro e w9 ⟨rfl, hB_⟩; have n_ := Aside0.mk (below_step HB.out hB_); clear HB hB_; have HB := n_; clear n_))
      go_ret
      exact ⟨rfl, HB.out⟩

/-! ### laws_FnExactPriority: function 4 -/
def laws_FnExactPriority.f (k : Nat) (a0_0 : Int) (a0_1 : Int) (l0_2 : List (S98)) (l0_3 : List (S100)) (a1 : Int) : Option (Bool) := (laws_szSched.f a0_0 a0_1 l0_2 l0_3 1048576).bind fun t200 => (if t200 < 0 then (some true) else ((laws_toSched.f k a0_0 a0_1 l0_2 l0_3).bind fun bt201 => ((spec_Priority.f k bt201.1 bt201.2.1 bt201.2.2.1 bt201.2.2.2 a1).bind fun t209 => ((laws_toSched.f k a0_0 a0_1 l0_2 l0_3).bind fun bt210 => ((impl_Priority.f bt210.1 bt210.2.1 bt210.2.2.1 bt210.2.2.2 a1).bind fun t219 => (if t219 = t209 then ((laws_toSched.f k a0_0 a0_1 l0_2 l0_3).bind fun bt220 => ((laws_eqSched.f k bt210.1 bt210.2.1 bt210.2.2.1 bt210.2.2.2 bt220.1 bt220.2.1 bt220.2.2.1 bt220.2.2.2).bind fun t228 => (if t228 = true then (some true) else (none)))) else (none)))))))
theorem laws_FnExactPriority.mono : ∀ a0 a1 a2 a3 a4 k, LeO (laws_FnExactPriority.f k a0 a1 a2 a3 a4) (laws_FnExactPriority.f (k + 1) a0 a1 a2 a3 a4) := by
  intro a0 a1 a2 a3 a4 k
  unfold laws_FnExactPriority.f
  repeat' first
      | (with_reducible exact laws_eqSched.mono _ _ _ _ _ _ _ _ _)
      | (with_reducible exact laws_toSched.mono _ _ _ _ _)
      | (with_reducible exact spec_Priority.mono _ _ _ _ _ _)
      | (with_reducible exact LeO.refl _)
      | (with_reducible exact LeO.none _)
      | (with_reducible refine LeO.ite ?_ ?_)
      | (with_reducible refine LeO.bind ?_ (fun _ => ?_))
      | exact laws_eqSched.mono _ _ _ _ _ _ _ _ _
      | exact laws_toSched.mono _ _ _ _ _
      | exact spec_Priority.mono _ _ _ _ _ _
      | exact LeO.none _
      | refine LeO.ite ?_ ?_
      | refine LeO.bind ?_ (fun _ => ?_)
set_option maxHeartbeats 8000000 in
set_option maxRecDepth 100000 in
theorem laws_FnExactPriority.calls (k : Nat) (a0_0 : Int) (a0_1 : Int) (A0_2 : Option Addr) (c0_2 : Nat) (l0_2 : List (S98)) (A0_3 : Option Addr) (c0_3 : Nat) (l0_3 : List (S100)) (a1 : Int) (r : Bool) (w : World) (hr0_2 : Kd.C k98 w A0_2 l0_2.length l0_2) (hc0_2 : l0_2.length ≤ c0_2) (hr0_3 : Kd.C k100 w A0_3 l0_3.length l0_3) (hc0_3 : l0_3.length ≤ c0_3) (h : laws_FnExactPriority.f k a0_0 a0_1 l0_2 l0_3 a1 = some r) :
    Calls Try.prog 4 #[.agg #[.int .i64 a0_0, .int .i64 a0_1, .slice A0_2 l0_2.length c0_2, .slice A0_3 l0_3.length c0_3], .int .i64 a1] w fun e w' => e = .returned (.bool r) ∧ Below w.heap.size w w' := by
  have hu25 := Try.underlying25
  have hu31 := Try.underlying31
  have HR0_2 := Aside0.mk hr0_2
  have HC0_2 := Aside0.mk hc0_2
  clear hr0_2 hc0_2
  have HR0_3 := Aside0.mk hr0_3
  have HC0_3 := Aside0.mk hc0_3
  clear hr0_3 hc0_3
  have HB := Aside0.mk (Below.refl w.heap.size w)
  have H : ((laws_szSched.f a0_0 a0_1 l0_2 l0_3 1048576).bind fun t200 => (if t200 < 0 then (some true) else ((laws_toSched.f k a0_0 a0_1 l0_2 l0_3).bind fun bt201 => ((spec_Priority.f k bt201.1 bt201.2.1 bt201.2.2.1 bt201.2.2.2 a1).bind fun t209 => ((laws_toSched.f k a0_0 a0_1 l0_2 l0_3).bind fun bt210 => ((impl_Priority.f bt210.1 bt210.2.1 bt210.2.2.1 bt210.2.2.2 a1).bind fun t219 => (if t219 = t209 then ((laws_toSched.f k a0_0 a0_1 l0_2 l0_3).bind fun bt220 => ((laws_eqSched.f k bt210.1 bt210.2.1 bt210.2.2.1 bt210.2.2.2 bt220.1 bt220.2.1 bt220.2.2.1 bt220.2.2.2).bind fun t228 => (if t228 = true then (some true) else (none)))) else (none)))))))) = some r := h
  clear h
  replace H := Option.bind_eq_some_iff.mp H
  obtain ⟨t200, A30, H⟩ := H
  replace H : (if t200 < 0 then (some true) else ((laws_toSched.f k a0_0 a0_1 l0_2 l0_3).bind fun bt201 => ((spec_Priority.f k bt201.1 bt201.2.1 bt201.2.2.1 bt201.2.2.2 a1).bind fun t209 => ((laws_toSched.f k a0_0 a0_1 l0_2 l0_3).bind fun bt210 => ((impl_Priority.f bt210.1 bt210.2.1 bt210.2.2.1 bt210.2.2.2 a1).bind fun t219 => (if t219 = t209 then ((laws_toSched.f k a0_0 a0_1 l0_2 l0_3).bind fun bt220 => ((laws_eqSched.f k bt210.1 bt210.2.1 bt210.2.2.1 bt210.2.2.2 bt220.1 bt220.2.1 bt220.2.2.1 bt220.2.2.2).bind fun t228 => (if t228 = true then (some true) else (none)))) else (none))))))) = some r := H
  have A3 := Aside0.mk A30
  clear A30
  by_cases c4 : t200 < 0
  · rw [if_pos c4] at H
    have c4b0 : decide (t200 < 0) = true := decide_eq_true c4
    clear c4
    obtain rfl := Option.some.inj H
    go_enter Try.func4, Try.ntmps4
    go_wp2_with (first | ((with_reducible refine gate_dst (N := 2) rfl ?_); refine box_event ?hg (N := 2) ?hd (cs := #[.int .i64 a0_0, .int .i64 a0_1, .slice A0_2 l0_2.length c0_2, .slice A0_3 l0_3.length c0_3]) (t := 25) ?hr ?_; (case hd => rfl); (case hg => rfl); (case hr => first | (go_simp; done) | (go_simp; rfl)); intro gb199 hg w5 hbox hb; have n0_ := Aside0.mk (below_step (by repeat (first | (with_reducible first | exact HB.out | apply below_alloc | apply pw_below_drewN | apply below_drew1) | exact HB.out)) hb); have n1_ := Aside0.mk (hbox); have n2_ := Aside0.mk ((by rw [hg]; exact (below_size (by repeat (first | (with_reducible first | exact HB.out | apply below_alloc | apply pw_below_drewN | apply below_drew1) | exact HB.out))) : w.heap.size ≤ gb199)); have n3_ := Aside0.mk ((by rw [hg]; exact (below_size (by repeat (first | (with_reducible first | exact HB.out | apply below_alloc | apply pw_below_drewN | apply below_drew1) | exact HB.out))) : w.heap.size ≤ gb199)); clear HB; have HB := n0_; have BK199 := n1_; have GW199 := n2_; have GE199 := n3_; clear n0_ n1_ n2_ n3_; clear hb hbox hg; have hcz6_0 : w5.cell? ⟨gb199, 0, none⟩ = some (.int .i64 a0_0) := (blk_cell BK199.out 0).trans rfl; have hcz6_1 : w5.cell? ⟨gb199, 1, none⟩ = some (.int .i64 a0_1) := (blk_cell BK199.out 1).trans rfl; have hcz6_2 : w5.cell? ⟨gb199, 2, none⟩ = some (.slice A0_2 l0_2.length c0_2) := (blk_cell BK199.out 2).trans rfl; have hcz6_3 : w5.cell? ⟨gb199, 3, none⟩ = some (.slice A0_3 l0_3.length c0_3) := (blk_cell BK199.out 3).trans rfl; have hfz6_0 := blk_frozen BK199.out 0; have hfz6_1 := blk_frozen BK199.out 1; have hfz6_2 := blk_frozen BK199.out 2; have hfz6_3 := blk_frozen BK199.out 3) | ((with_reducible refine gate_callee (f := 9) rfl ?_); refine goesL_ (some 11) rfl rfl Try.func9 (by kernel_rfl) rfl #[.agg #[.int .i64 a0_0, .int .i64 a0_1, .slice A0_2 l0_2.length c0_2, .slice A0_3 l0_3.length c0_3], .int .i64 1048576] rfl (by (try simp only [List.map_toArray, List.map_cons, List.map_nil]); first | done | rfl | (simp only [List.length_drop, List.length_take]; first | done | rfl)) ?_; (with_reducible refine (laws_szSched.calls a0_0 a0_1 _ _ l0_2 _ _ l0_3 1048576 t200 _ ?side1 ?side2 ?side3 ?side4 A3.out).mono ?_); (case side1 => repeat (first | exact (Kd.C_below HR0_2.out HB.out) | (with_reducible refine Kd.C_alloc ?_ _) | (with_reducible refine Kd.C_drewN ?_ _) | (with_reducible refine Kd.C_drew ?_))); (case side2 => exact HC0_2.out); (case side3 => repeat (first | exact (Kd.C_below HR0_3.out HB.out) | (with_reducible refine Kd.C_alloc ?_ _) | (with_reducible refine Kd.C_drewN ?_ _) | (with_reducible refine Kd.C_drew ?_))); (case side4 => exact HC0_3.out); rintro e w7 ⟨rfl, hb⟩; refine ⟨_, rfl, ?_⟩; have n0_ := Aside0.mk (blk_below (g := gb199) (o := .cells #[.int .i64 a0_0, .int .i64 a0_1, .slice A0_2 l0_2.length c0_2, .slice A0_3 l0_3.length c0_3] 25 (0, 0)) (by (with_reducible repeat (first | refine blk_drewN ?_ _ | refine blk_drew ?_ | refine blk_alloc ?_ _)); exact BK199.out) hb); have n1_ := Aside0.mk (below_step (by repeat (first | (with_reducible first | exact HB.out | apply below_alloc | apply pw_below_drewN | apply below_drew1 | refine below_set ?_ GE199.out) | exact HB.out)) hb); clear BK199; clear HB; have BK199 := n0_; have HB := n1_; clear n0_ n1_; (try clear hb); (try clear hb2); (try clear hk); (try clear hi)))
    go_ret
    exact ⟨by first | rfl | (simp [errW_none, errW_some] <;> rfl) | (simp [*, errW_none, errW_some] <;> rfl), by repeat (first | (with_reducible first | exact HB.out | apply below_alloc | apply pw_below_drewN | apply below_drew1 | refine below_set ?_ GE199.out) | exact HB.out)⟩
  · rw [if_neg c4] at H
    have c4b0 : decide (t200 < 0) = false := decide_eq_false c4
    clear c4
    replace H := Option.bind_eq_some_iff.mp H
    obtain ⟨⟨t201, t202, t203, t206⟩, A80, H⟩ := H
    replace H : ((spec_Priority.f k t201 t202 t203 t206 a1).bind fun t209 => ((laws_toSched.f k a0_0 a0_1 l0_2 l0_3).bind fun bt210 => ((impl_Priority.f bt210.1 bt210.2.1 bt210.2.2.1 bt210.2.2.2 a1).bind fun t219 => (if t219 = t209 then ((laws_toSched.f k a0_0 a0_1 l0_2 l0_3).bind fun bt220 => ((laws_eqSched.f k bt210.1 bt210.2.1 bt210.2.2.1 bt210.2.2.2 bt220.1 bt220.2.1 bt220.2.2.1 bt220.2.2.2).bind fun t228 => (if t228 = true then (some true) else (none)))) else (none))))) = some r := H
    have A8 := Aside0.mk A80
    clear A80
    replace H := Option.bind_eq_some_iff.mp H
    obtain ⟨t209, A90, H⟩ := H
    replace H : ((laws_toSched.f k a0_0 a0_1 l0_2 l0_3).bind fun bt210 => ((impl_Priority.f bt210.1 bt210.2.1 bt210.2.2.1 bt210.2.2.2 a1).bind fun t219 => (if t219 = t209 then ((laws_toSched.f k a0_0 a0_1 l0_2 l0_3).bind fun bt220 => ((laws_eqSched.f k bt210.1 bt210.2.1 bt210.2.2.1 bt210.2.2.2 bt220.1 bt220.2.1 bt220.2.2.1 bt220.2.2.2).bind fun t228 => (if t228 = true then (some true) else (none)))) else (none)))) = some r := H
    have A9 := Aside0.mk A90
    clear A90
    replace H := Option.bind_eq_some_iff.mp H
    obtain ⟨⟨t210, t211, t212, t215⟩, A100, H⟩ := H
    replace H : ((impl_Priority.f t210 t211 t212 t215 a1).bind fun t219 => (if t219 = t209 then ((laws_toSched.f k a0_0 a0_1 l0_2 l0_3).bind fun bt220 => ((laws_eqSched.f k t210 t211 t212 t215 bt220.1 bt220.2.1 bt220.2.2.1 bt220.2.2.2).bind fun t228 => (if t228 = true then (some true) else (none)))) else (none))) = some r := H
    have A10 := Aside0.mk A100
    clear A100
    replace H := Option.bind_eq_some_iff.mp H
    obtain ⟨t219, A110, H⟩ := H
    replace H : (if t219 = t209 then ((laws_toSched.f k a0_0 a0_1 l0_2 l0_3).bind fun bt220 => ((laws_eqSched.f k t210 t211 t212 t215 bt220.1 bt220.2.1 bt220.2.2.1 bt220.2.2.2).bind fun t228 => (if t228 = true then (some true) else (none)))) else (none)) = some r := H
    have A11 := Aside0.mk A110
    clear A110
    by_cases c12 : t219 = t209
    · rw [if_pos c12] at H
      have c12b0 : (t219 == t209) = true := beq_iff_eq.mpr c12
      have c12b1 : (t219 != t209) = false := bne_eq_false_iff_eq.mpr c12
      clear c12
      replace H := Option.bind_eq_some_iff.mp H
      obtain ⟨⟨t220, t221, t222, t225⟩, A130, H⟩ := H
      replace H : ((laws_eqSched.f k t210 t211 t212 t215 t220 t221 t222 t225).bind fun t228 => (if t228 = true then (some true) else (none))) = some r := H
      have A13 := Aside0.mk A130
      clear A130
      replace H := Option.bind_eq_some_iff.mp H
      obtain ⟨t228, A140, H⟩ := H
      replace H : (if t228 = true then (some true) else (none)) = some r := H
      have A14 := Aside0.mk A140
      clear A140
      by_cases c15 : t228 = true
      · subst c15
        have H1 : (some true) = some r := by rw [if_pos rfl] at H; exact H
        clear H
        have H := H1
        clear H1
        obtain rfl := Option.some.inj H
        go_enter Try.func4, Try.ntmps4
        try go_wp2_with (first | ((with_reducible refine gate_dst (N := 2) rfl ?_); refine box_event ?hg (N := 2) ?hd (cs := #[.int .i64 a0_0, .int .i64 a0_1, .slice A0_2 l0_2.length c0_2, .slice A0_3 l0_3.length c0_3]) (t := 25) ?hr ?_; (case hd => rfl); (case hg => rfl); (case hr => first | (go_simp; done) | (go_simp; rfl)); intro gb199 hg w16 hbox hb; have n0_ := Aside0.mk (below_step (by repeat (first | (with_reducible first | exact HB.out | apply below_alloc | apply pw_below_drewN | apply below_drew1) | exact HB.out)) hb); have n1_ := Aside0.mk (hbox); have n2_ := Aside0.mk ((by rw [hg]; exact (below_size (by repeat (first | (with_reducible first | exact HB.out | apply below_alloc | apply pw_below_drewN | apply below_drew1) | exact HB.out))) : w.heap.size ≤ gb199)); have n3_ := Aside0.mk ((by rw [hg]; exact (below_size (by repeat (first | (with_reducible first | exact HB.out | apply below_alloc | apply pw_below_drewN | apply below_drew1) | exact HB.out))) : w.heap.size ≤ gb199)); clear HB; have HB := n0_; have BK199 := n1_; have GW199 := n2_; have GE199 := n3_; clear n0_ n1_ n2_ n3_; clear hb hbox hg; have hcz17_0 : w16.cell? ⟨gb199, 0, none⟩ = some (.int .i64 a0_0) := (blk_cell BK199.out 0).trans rfl; have hcz17_1 : w16.cell? ⟨gb199, 1, none⟩ = some (.int .i64 a0_1) := (blk_cell BK199.out 1).trans rfl; have hcz17_2 : w16.cell? ⟨gb199, 2, none⟩ = some (.slice A0_2 l0_2.length c0_2) := (blk_cell BK199.out 2).trans rfl; have hcz17_3 : w16.cell? ⟨gb199, 3, none⟩ = some (.slice A0_3 l0_3.length c0_3) := (blk_cell BK199.out 3).trans rfl; have hfz17_0 := blk_frozen BK199.out 0; have hfz17_1 := blk_frozen BK199.out 1; have hfz17_2 := blk_frozen BK199.out 2; have hfz17_3 := blk_frozen BK199.out 3) | ((with_reducible refine gate_callee (f := 9) rfl ?_); refine goesL_ (some 11) rfl rfl Try.func9 (by kernel_rfl) rfl #[.agg #[.int .i64 a0_0, .int .i64 a0_1, .slice A0_2 l0_2.length c0_2, .slice A0_3 l0_3.length c0_3], .int .i64 1048576] rfl (by (try simp only [List.map_toArray, List.map_cons, List.map_nil]); first | done | rfl | (simp only [List.length_drop, List.length_take]; first | done | rfl)) ?_; (with_reducible refine (laws_szSched.calls a0_0 a0_1 _ _ l0_2 _ _ l0_3 1048576 t200 _ ?side1 ?side2 ?side3 ?side4 A3.out).mono ?_); (case side1 => repeat (first | exact (Kd.C_below HR0_2.out HB.out) | (with_reducible refine Kd.C_alloc ?_ _) | (with_reducible refine Kd.C_drewN ?_ _) | (with_reducible refine Kd.C_drew ?_))); (case side2 => exact HC0_2.out); (case side3 => repeat (first | exact (Kd.C_below HR0_3.out HB.out) | (with_reducible refine Kd.C_alloc ?_ _) | (with_reducible refine Kd.C_drewN ?_ _) | (with_reducible refine Kd.C_drew ?_))); (case side4 => exact HC0_3.out); rintro e w18 ⟨rfl, hb⟩; refine ⟨_, rfl, ?_⟩; have n0_ := Aside0.mk (blk_below (g := gb199) (o := .cells #[.int .i64 a0_0, .int .i64 a0_1, .slice A0_2 l0_2.length c0_2, .slice A0_3 l0_3.length c0_3] 25 (0, 0)) (by (with_reducible repeat (first | refine blk_drewN ?_ _ | refine blk_drew ?_ | refine blk_alloc ?_ _)); exact BK199.out) hb); have n1_ := Aside0.mk (below_step (by repeat (first | (with_reducible first | exact HB.out | apply below_alloc | apply pw_below_drewN | apply below_drew1 | refine below_set ?_ GE199.out) | exact HB.out)) hb); clear BK199; clear HB; have BK199 := n0_; have HB := n1_; clear n0_ n1_; (try clear hb); (try clear hb2); (try clear hk); (try clear hi); have hcz19_0 : w18.cell? ⟨gb199, 0, none⟩ = some (.int .i64 a0_0) := (blk_cell BK199.out 0).trans rfl; have hcz19_1 : w18.cell? ⟨gb199, 1, none⟩ = some (.int .i64 a0_1) := (blk_cell BK199.out 1).trans rfl; have hcz19_2 : w18.cell? ⟨gb199, 2, none⟩ = some (.slice A0_2 l0_2.length c0_2) := (blk_cell BK199.out 2).trans rfl; have hcz19_3 : w18.cell? ⟨gb199, 3, none⟩ = some (.slice A0_3 l0_3.length c0_3) := (blk_cell BK199.out 3).trans rfl; have hfz19_0 := blk_frozen BK199.out 0; have hfz19_1 := blk_frozen BK199.out 1; have hfz19_2 := blk_frozen BK199.out 2; have hfz19_3 := blk_frozen BK199.out 3) | ((with_reducible refine gate_callee (f := 11) rfl ?_); refine goesL_ (some 15) rfl rfl Try.func11 (by kernel_rfl) rfl #[.agg #[.int .i64 a0_0, .int .i64 a0_1, .slice A0_2 l0_2.length c0_2, .slice A0_3 l0_3.length c0_3]] rfl (by (try simp only [List.map_toArray, List.map_cons, List.map_nil]); first | done | rfl | (simp only [List.length_drop, List.length_take]; first | done | rfl)) ?_; (with_reducible refine (laws_toSched.calls k a0_0 a0_1 _ _ l0_2 _ _ l0_3 t201 t202 t203 t206 _ ?side1 ?side2 ?side3 ?side4 A8.out).mono ?_); (case side1 => repeat (first | exact (Kd.C_below HR0_2.out HB.out) | (with_reducible refine Kd.C_alloc ?_ _) | (with_reducible refine Kd.C_drewN ?_ _) | (with_reducible refine Kd.C_drew ?_))); (case side2 => exact HC0_2.out); (case side3 => repeat (first | exact (Kd.C_below HR0_3.out HB.out) | (with_reducible refine Kd.C_alloc ?_ _) | (with_reducible refine Kd.C_drewN ?_ _) | (with_reducible refine Kd.C_drew ?_))); (case side4 => exact HC0_3.out); rintro e w20 ⟨v204, v207, rfl, ho0, ho1, hb⟩; refine ⟨_, rfl, ?_⟩; have n0_ := Aside0.mk (Kd.R_lower ho0 (below_size (by repeat (first | (with_reducible first | exact HB.out | apply below_alloc | apply pw_below_drewN | apply below_drew1 | refine below_set ?_ GE199.out) | exact HB.out)))); have n1_ := Aside0.mk (Kd.R_lower ho1 (below_size (by repeat (first | (with_reducible first | exact HB.out | apply below_alloc | apply pw_below_drewN | apply below_drew1 | refine below_set ?_ GE199.out) | exact HB.out)))); have n2_ := Aside0.mk (blk_below (g := gb199) (o := .cells #[.int .i64 a0_0, .int .i64 a0_1, .slice A0_2 l0_2.length c0_2, .slice A0_3 l0_3.length c0_3] 25 (0, 0)) (by (with_reducible repeat (first | refine blk_drewN ?_ _ | refine blk_drew ?_ | refine blk_alloc ?_ _)); exact BK199.out) hb); have n3_ := Aside0.mk (below_step (by repeat (first | (with_reducible first | exact HB.out | apply below_alloc | apply pw_below_drewN | apply below_drew1 | refine below_set ?_ GE199.out) | exact HB.out)) hb); clear BK199; clear HB; have HO205 := n0_; have HO208 := n1_; have BK199 := n2_; have HB := n3_; clear n0_ n1_ n2_ n3_; (try clear hb); (try clear hb2); (try clear hk); (try clear hi); (try clear ho0); (try clear ho1); obtain ⟨Ao21, co21, eo21⟩ := Kd.R_slice HO205.out; subst eo21; obtain ⟨Ao22, co22, eo22⟩ := Kd.R_slice HO208.out; subst eo22) | ((with_reducible refine gate_callee (f := 14) rfl ?_); refine goesL_ (some 17) rfl rfl Try.func14 (by kernel_rfl) rfl #[.agg #[.int .i64 t201, .int .i64 t202, .slice Ao21 t203.length co21, .slice Ao22 t206.length co22], .int .i64 a1] rfl (by (try simp only [List.map_toArray, List.map_cons, List.map_nil]); first | done | rfl | (simp only [List.length_drop, List.length_take]; first | done | rfl)) ?_; (with_reducible refine (spec_Priority.calls k t201 t202 _ _ t203 _ _ t206 a1 t209 _ ?side1 ?side2 ?side3 ?side4 A9.out).mono ?_); (case side1 => repeat (first | exact (Kd.R_reads' HO205.out).2.2 | (with_reducible refine Kd.C_alloc ?_ _) | (with_reducible refine Kd.C_drewN ?_ _) | (with_reducible refine Kd.C_drew ?_))); (case side2 => exact (Kd.R_reads' HO205.out).2.1); (case side3 => repeat (first | exact (Kd.R_reads' HO208.out).2.2 | (with_reducible refine Kd.C_alloc ?_ _) | (with_reducible refine Kd.C_drewN ?_ _) | (with_reducible refine Kd.C_drew ?_))); (case side4 => exact (Kd.R_reads' HO208.out).2.1); rintro e w23 ⟨rfl, hb⟩; refine ⟨_, rfl, ?_⟩; have n0_ := Aside0.mk (Kd.R_below (by (with_reducible repeat (first | apply Kd.R_alloc | apply Kd.R_drewN | apply Kd.R_drew)); exact HO205.out) hb); have n1_ := Aside0.mk (Kd.R_below (by (with_reducible repeat (first | apply Kd.R_alloc | apply Kd.R_drewN | apply Kd.R_drew)); exact HO208.out) hb); have n2_ := Aside0.mk (blk_below (g := gb199) (o := .cells #[.int .i64 a0_0, .int .i64 a0_1, .slice A0_2 l0_2.length c0_2, .slice A0_3 l0_3.length c0_3] 25 (0, 0)) (by (with_reducible repeat (first | refine blk_drewN ?_ _ | refine blk_drew ?_ | refine blk_alloc ?_ _)); exact BK199.out) hb); have n3_ := Aside0.mk (below_step (by repeat (first | (with_reducible first | exact HB.out | apply below_alloc | apply pw_below_drewN | apply below_drew1 | refine below_set ?_ GE199.out) | exact HB.out)) hb); clear HO205; clear HO208; clear BK199; clear HB; have HO205 := n0_; have HO208 := n1_; have BK199 := n2_; have HB := n3_; clear n0_ n1_ n2_ n3_; (try clear hb); (try clear hb2); (try clear hk); (try clear hi); have hcz24_0 : w23.cell? ⟨gb199, 0, none⟩ = some (.int .i64 a0_0) := (blk_cell BK199.out 0).trans rfl; have hcz24_1 : w23.cell? ⟨gb199, 1, none⟩ = some (.int .i64 a0_1) := (blk_cell BK199.out 1).trans rfl; have hcz24_2 : w23.cell? ⟨gb199, 2, none⟩ = some (.slice A0_2 l0_2.length c0_2) := (blk_cell BK199.out 2).trans rfl; have hcz24_3 : w23.cell? ⟨gb199, 3, none⟩ = some (.slice A0_3 l0_3.length c0_3) := (blk_cell BK199.out 3).trans rfl; have hfz24_0 := blk_frozen BK199.out 0; have hfz24_1 := blk_frozen BK199.out 1; have hfz24_2 := blk_frozen BK199.out 2; have hfz24_3 := blk_frozen BK199.out 3) | ((with_reducible refine gate_callee (f := 11) rfl ?_); refine goesL_ (some 19) rfl rfl Try.func11 (by kernel_rfl) rfl #[.agg #[.int .i64 a0_0, .int .i64 a0_1, .slice A0_2 l0_2.length c0_2, .slice A0_3 l0_3.length c0_3]] rfl (by (try simp only [List.map_toArray, List.map_cons, List.map_nil]); first | done | rfl | (simp only [List.length_drop, List.length_take]; first | done | rfl)) ?_; (with_reducible refine (laws_toSched.calls k a0_0 a0_1 _ _ l0_2 _ _ l0_3 t210 t211 t212 t215 _ ?side1 ?side2 ?side3 ?side4 A10.out).mono ?_); (case side1 => repeat (first | exact (Kd.C_below HR0_2.out HB.out) | (with_reducible refine Kd.C_alloc ?_ _) | (with_reducible refine Kd.C_drewN ?_ _) | (with_reducible refine Kd.C_drew ?_))); (case side2 => exact HC0_2.out); (case side3 => repeat (first | exact (Kd.C_below HR0_3.out HB.out) | (with_reducible refine Kd.C_alloc ?_ _) | (with_reducible refine Kd.C_drewN ?_ _) | (with_reducible refine Kd.C_drew ?_))); (case side4 => exact HC0_3.out); rintro e w25 ⟨v213, v216, rfl, ho0, ho1, hb⟩; refine ⟨_, rfl, ?_⟩; have n0_ := Aside0.mk (Kd.R_elder' (by (with_reducible repeat (first | apply Kd.R_alloc | apply Kd.R_drewN | apply Kd.R_drew)); exact HO205.out) (Kd.R_base ho0) hb); have n1_ := Aside0.mk (Kd.R_elder' (by (with_reducible repeat (first | apply Kd.R_alloc | apply Kd.R_drewN | apply Kd.R_drew)); exact HO208.out) (Kd.R_base ho1) hb); have n2_ := Aside0.mk (Kd.R_lower (Kd.R_new' ho0 (Kd.R_lt (by (with_reducible repeat (first | apply Kd.R_alloc | apply Kd.R_drewN | apply Kd.R_drew)); exact HO205.out))) (below_size (by repeat (first | (with_reducible first | exact HB.out | apply below_alloc | apply pw_below_drewN | apply below_drew1 | refine below_set ?_ GE199.out) | exact HB.out)))); have n3_ := Aside0.mk (Kd.R_lower (Kd.R_new' ho1 (Kd.R_lt (by (with_reducible repeat (first | apply Kd.R_alloc | apply Kd.R_drewN | apply Kd.R_drew)); exact HO208.out))) (below_size (by repeat (first | (with_reducible first | exact HB.out | apply below_alloc | apply pw_below_drewN | apply below_drew1 | refine below_set ?_ GE199.out) | exact HB.out)))); have n4_ := Aside0.mk (blk_below (g := gb199) (o := .cells #[.int .i64 a0_0, .int .i64 a0_1, .slice A0_2 l0_2.length c0_2, .slice A0_3 l0_3.length c0_3] 25 (0, 0)) (by (with_reducible repeat (first | refine blk_drewN ?_ _ | refine blk_drew ?_ | refine blk_alloc ?_ _)); exact BK199.out) hb); have n5_ := Aside0.mk (below_step (by repeat (first | (with_reducible first | exact HB.out | apply below_alloc | apply pw_below_drewN | apply below_drew1 | refine below_set ?_ GE199.out) | exact HB.out)) hb); clear HO205; clear HO208; clear BK199; clear HB; have HO205 := n0_; have HO208 := n1_; have HO214 := n2_; have HO217 := n3_; have BK199 := n4_; have HB := n5_; clear n0_ n1_ n2_ n3_ n4_ n5_; (try clear hb); (try clear hb2); (try clear hk); (try clear hi); (try clear ho0); (try clear ho1)) | ((with_reducible refine gate_dst (N := 7) rfl ?_); refine box_event ?hg (N := 7) ?hd (cs := #[.int .i64 0, .int .i64 0, .slice none 0 0, .slice none 0 0]) (t := 31) ?hr ?_; (case hd => rfl); (case hg => rfl); (case hr => first | (go_simp; done) | (go_simp; rfl)); intro gb218 hg w26 hbox hb; have n0_ := Aside0.mk (Kd.R_below (by (with_reducible repeat (first | apply Kd.R_alloc | apply Kd.R_drewN | apply Kd.R_drew)); exact HO205.out) hb); have n1_ := Aside0.mk (Kd.R_below (by (with_reducible repeat (first | apply Kd.R_alloc | apply Kd.R_drewN | apply Kd.R_drew)); exact HO208.out) hb); have n2_ := Aside0.mk (Kd.R_below (by (with_reducible repeat (first | apply Kd.R_alloc | apply Kd.R_drewN | apply Kd.R_drew)); exact HO214.out) hb); have n3_ := Aside0.mk (Kd.R_below (by (with_reducible repeat (first | apply Kd.R_alloc | apply Kd.R_drewN | apply Kd.R_drew)); exact HO217.out) hb); have n4_ := Aside0.mk (blk_below (g := gb199) (o := .cells #[.int .i64 a0_0, .int .i64 a0_1, .slice A0_2 l0_2.length c0_2, .slice A0_3 l0_3.length c0_3] 25 (0, 0)) (by (with_reducible repeat (first | refine blk_drewN ?_ _ | refine blk_drew ?_ | refine blk_alloc ?_ _)); exact BK199.out) hb); have n5_ := Aside0.mk (below_step (by repeat (first | (with_reducible first | exact HB.out | apply below_alloc | apply pw_below_drewN | apply below_drew1 | refine below_set ?_ GE199.out) | exact HB.out)) hb); have n6_ := Aside0.mk (hbox); have n7_ := Aside0.mk ((by rw [hg]; exact (below_size (by repeat (first | (with_reducible first | exact HB.out | apply below_alloc | apply pw_below_drewN | apply below_drew1 | refine below_set ?_ GE199.out) | exact HB.out))) : w.heap.size ≤ gb218)); have n8_ := Aside0.mk ((by rw [hg]; exact (below_size (by repeat (first | (with_reducible first | exact HB.out | apply below_alloc | apply pw_below_drewN | apply below_drew1 | refine below_set ?_ GE199.out) | exact HB.out))) : w.heap.size ≤ gb218)); have n9_ := Aside0.mk ((by rw [hg]; exact Nat.ne_of_lt (blk_lt (g := gb199) (o := .cells #[.int .i64 a0_0, .int .i64 a0_1, .slice A0_2 l0_2.length c0_2, .slice A0_3 l0_3.length c0_3] 25 (0, 0)) (by (with_reducible repeat (first | refine blk_drewN ?_ _ | refine blk_drew ?_ | refine blk_alloc ?_ _)); exact BK199.out)) : gb199 ≠ gb218)); have n10_ := Aside0.mk ((by rw [hg]; exact Nat.ne_of_gt (blk_lt (g := gb199) (o := .cells #[.int .i64 a0_0, .int .i64 a0_1, .slice A0_2 l0_2.length c0_2, .slice A0_3 l0_3.length c0_3] 25 (0, 0)) (by (with_reducible repeat (first | refine blk_drewN ?_ _ | refine blk_drew ?_ | refine blk_alloc ?_ _)); exact BK199.out)) : gb218 ≠ gb199)); clear HO205; clear HO208; clear HO214; clear HO217; clear BK199; clear HB; have HO205 := n0_; have HO208 := n1_; have HO214 := n2_; have HO217 := n3_; have BK199 := n4_; have HB := n5_; have BK218 := n6_; have GW218 := n7_; have GE218 := n8_; have NB199_218 := n9_; have NB218_199 := n10_; clear n0_ n1_ n2_ n3_ n4_ n5_ n6_ n7_ n8_ n9_ n10_; clear hb hbox hg; have hnb27 := NB218_199.out; have hnc27 := NB199_218.out; have hcz28_0 : w26.cell? ⟨gb218, 0, none⟩ = some (.int .i64 0) := (blk_cell BK218.out 0).trans rfl; have hcz28_1 : w26.cell? ⟨gb218, 1, none⟩ = some (.int .i64 0) := (blk_cell BK218.out 1).trans rfl; have hcz28_2 : w26.cell? ⟨gb218, 2, none⟩ = some (.slice none 0 0) := (blk_cell BK218.out 2).trans rfl; have hcz28_3 : w26.cell? ⟨gb218, 3, none⟩ = some (.slice none 0 0) := (blk_cell BK218.out 3).trans rfl; have hfz28_0 := blk_frozen BK218.out 0; have hfz28_1 := blk_frozen BK218.out 1; have hfz28_2 := blk_frozen BK218.out 2; have hfz28_3 := blk_frozen BK218.out 3; obtain ⟨Ao29, co29, eo29⟩ := Kd.R_slice HO214.out; subst eo29; obtain ⟨Ao30, co30, eo30⟩ := Kd.R_slice HO217.out; subst eo30) | ((with_reducible refine gate_callee (f := 15) rfl ?_); refine goesL_ (some 22) rfl rfl Try.func15 (by kernel_rfl) rfl #[.agg #[.int .i64 t210, .int .i64 t211, .slice Ao29 t212.length co29, .slice Ao30 t215.length co30], .int .i64 a1] rfl (by (try simp only [List.map_toArray, List.map_cons, List.map_nil]); first | done | rfl | (simp only [List.length_drop, List.length_take]; first | done | rfl)) ?_; (with_reducible refine (impl_Priority.calls t210 t211 _ _ t212 _ _ t215 a1 t219 _ ?side1 ?side2 ?side3 ?side4 A11.out).mono ?_); (case side1 => refine (Kd.R_reads' (e := 71) (base := w.heap.size) (ok := fun k_ => (True ∧ some k_ ≠ (.slice Ao21 t203.length co21 : Value).ownBlock)) (n := t212.length) (c := co29) ?_).2.2; exact (by (with_reducible repeat (first | apply Kd.R_alloc | apply Kd.R_drewN | apply Kd.R_drew)); exact (Kd.R_mono (Kd.R_far (p := ⟨gb218, 3, none⟩) (Kd.R_far (p := ⟨gb218, 2, none⟩) (Kd.R_far (p := ⟨gb218, 1, none⟩) (Kd.R_far (p := ⟨gb218, 0, none⟩) (Kd.R_types HO214.out BK218.out (by decide)) (fun _ hk => hk.2) (.int .i64 t210)) (fun _ hk => hk.2) (.int .i64 t211)) (fun _ hk => hk.2) (.slice Ao29 t212.length co29)) (fun _ hk => hk.2) (.slice Ao30 t215.length co30)) (fun _ h_ => h_.1)))); (case side2 => exact (Kd.R_reads' HO214.out).2.1); (case side3 => refine (Kd.R_reads' (e := 68) (base := w.heap.size) (ok := fun k_ => (True ∧ some k_ ≠ (.slice Ao22 t206.length co22 : Value).ownBlock)) (n := t215.length) (c := co30) ?_).2.2; exact (by (with_reducible repeat (first | apply Kd.R_alloc | apply Kd.R_drewN | apply Kd.R_drew)); exact (Kd.R_mono (Kd.R_far (p := ⟨gb218, 3, none⟩) (Kd.R_far (p := ⟨gb218, 2, none⟩) (Kd.R_far (p := ⟨gb218, 1, none⟩) (Kd.R_far (p := ⟨gb218, 0, none⟩) (Kd.R_types HO217.out BK218.out (by decide)) (fun _ hk => hk.2) (.int .i64 t210)) (fun _ hk => hk.2) (.int .i64 t211)) (fun _ hk => hk.2) (.slice Ao29 t212.length co29)) (fun _ hk => hk.2) (.slice Ao30 t215.length co30)) (fun _ h_ => h_.1)))); (case side4 => exact (Kd.R_reads' HO217.out).2.1); rintro e w31 ⟨rfl, hb⟩; refine ⟨_, rfl, ?_⟩; have n0_ := Aside0.mk (Kd.R_below (by (with_reducible repeat (first | apply Kd.R_alloc | apply Kd.R_drewN | apply Kd.R_drew)); exact (Kd.R_mono (Kd.R_far (p := ⟨gb218, 3, none⟩) (Kd.R_far (p := ⟨gb218, 2, none⟩) (Kd.R_far (p := ⟨gb218, 1, none⟩) (Kd.R_far (p := ⟨gb218, 0, none⟩) (Kd.R_types HO205.out BK218.out (by decide)) (fun _ hk => hk.2) (.int .i64 t210)) (fun _ hk => hk.2) (.int .i64 t211)) (fun _ hk => hk.2) (.slice Ao29 t212.length co29)) (fun _ hk => hk.2) (.slice Ao30 t215.length co30)) (fun _ h_ => h_.1))) hb); have n1_ := Aside0.mk (Kd.R_below (by (with_reducible repeat (first | apply Kd.R_alloc | apply Kd.R_drewN | apply Kd.R_drew)); exact (Kd.R_mono (Kd.R_far (p := ⟨gb218, 3, none⟩) (Kd.R_far (p := ⟨gb218, 2, none⟩) (Kd.R_far (p := ⟨gb218, 1, none⟩) (Kd.R_far (p := ⟨gb218, 0, none⟩) (Kd.R_types HO208.out BK218.out (by decide)) (fun _ hk => hk.2) (.int .i64 t210)) (fun _ hk => hk.2) (.int .i64 t211)) (fun _ hk => hk.2) (.slice Ao29 t212.length co29)) (fun _ hk => hk.2) (.slice Ao30 t215.length co30)) (fun _ h_ => h_.1))) hb); have n2_ := Aside0.mk (Kd.R_below (by (with_reducible repeat (first | apply Kd.R_alloc | apply Kd.R_drewN | apply Kd.R_drew)); exact (Kd.R_mono (Kd.R_far (p := ⟨gb218, 3, none⟩) (Kd.R_far (p := ⟨gb218, 2, none⟩) (Kd.R_far (p := ⟨gb218, 1, none⟩) (Kd.R_far (p := ⟨gb218, 0, none⟩) (Kd.R_types HO214.out BK218.out (by decide)) (fun _ hk => hk.2) (.int .i64 t210)) (fun _ hk => hk.2) (.int .i64 t211)) (fun _ hk => hk.2) (.slice Ao29 t212.length co29)) (fun _ hk => hk.2) (.slice Ao30 t215.length co30)) (fun _ h_ => h_.1))) hb); have n3_ := Aside0.mk (Kd.R_below (by (with_reducible repeat (first | apply Kd.R_alloc | apply Kd.R_drewN | apply Kd.R_drew)); exact (Kd.R_mono (Kd.R_far (p := ⟨gb218, 3, none⟩) (Kd.R_far (p := ⟨gb218, 2, none⟩) (Kd.R_far (p := ⟨gb218, 1, none⟩) (Kd.R_far (p := ⟨gb218, 0, none⟩) (Kd.R_types HO217.out BK218.out (by decide)) (fun _ hk => hk.2) (.int .i64 t210)) (fun _ hk => hk.2) (.int .i64 t211)) (fun _ hk => hk.2) (.slice Ao29 t212.length co29)) (fun _ hk => hk.2) (.slice Ao30 t215.length co30)) (fun _ h_ => h_.1))) hb); have n4_ := Aside0.mk (blk_below (g := gb199) (o := .cells #[.int .i64 a0_0, .int .i64 a0_1, .slice A0_2 l0_2.length c0_2, .slice A0_3 l0_3.length c0_3] 25 (0, 0)) (by (with_reducible repeat (first | refine blk_drewN ?_ _ | refine blk_drew ?_ | refine blk_alloc ?_ _)); refine blk_far ?_ NB199_218.out _; (with_reducible repeat (first | refine blk_drewN ?_ _ | refine blk_drew ?_ | refine blk_alloc ?_ _)); refine blk_far ?_ NB199_218.out _; (with_reducible repeat (first | refine blk_drewN ?_ _ | refine blk_drew ?_ | refine blk_alloc ?_ _)); refine blk_far ?_ NB199_218.out _; (with_reducible repeat (first | refine blk_drewN ?_ _ | refine blk_drew ?_ | refine blk_alloc ?_ _)); refine blk_far ?_ NB199_218.out _; (with_reducible repeat (first | refine blk_drewN ?_ _ | refine blk_drew ?_ | refine blk_alloc ?_ _)); exact BK199.out) hb); have n5_ := Aside0.mk (blk_below (g := gb218) (o := .cells #[.int .i64 t210, .int .i64 t211, .slice Ao29 t212.length co29, .slice Ao30 t215.length co30] 31 (0, 0)) (by (with_reducible repeat (first | refine blk_drewN ?_ _ | refine blk_drew ?_ | refine blk_alloc ?_ _)); refine blk_put (cs := #[.int .i64 t210, .int .i64 t211, .slice Ao29 t212.length co29, .slice none 0 0]) ?_ 3 _ rfl; (with_reducible repeat (first | refine blk_drewN ?_ _ | refine blk_drew ?_ | refine blk_alloc ?_ _)); refine blk_put (cs := #[.int .i64 t210, .int .i64 t211, .slice none 0 0, .slice none 0 0]) ?_ 2 _ rfl; (with_reducible repeat (first | refine blk_drewN ?_ _ | refine blk_drew ?_ | refine blk_alloc ?_ _)); refine blk_put (cs := #[.int .i64 t210, .int .i64 0, .slice none 0 0, .slice none 0 0]) ?_ 1 _ rfl; (with_reducible repeat (first | refine blk_drewN ?_ _ | refine blk_drew ?_ | refine blk_alloc ?_ _)); refine blk_put (cs := #[.int .i64 0, .int .i64 0, .slice none 0 0, .slice none 0 0]) ?_ 0 _ rfl; (with_reducible repeat (first | refine blk_drewN ?_ _ | refine blk_drew ?_ | refine blk_alloc ?_ _)); exact BK218.out) hb); have n6_ := Aside0.mk (below_step (by repeat (first | (with_reducible first | exact HB.out | apply below_alloc | apply pw_below_drewN | apply below_drew1 | refine below_set ?_ GE199.out | refine below_set ?_ GE218.out) | exact HB.out)) hb); clear HO205; clear HO208; clear HO214; clear HO217; clear BK199; clear BK218; clear HB; have HO205 := n0_; have HO208 := n1_; have HO214 := n2_; have HO217 := n3_; have BK199 := n4_; have BK218 := n5_; have HB := n6_; clear n0_ n1_ n2_ n3_ n4_ n5_ n6_; (try clear hb); (try clear hb2); (try clear hk); (try clear hi)))
        have n0_ := Aside0.mk (Kd.R_drew HO205.out)
        have n1_ := Aside0.mk (Kd.R_drew HO208.out)
        have n2_ := Aside0.mk (Kd.R_drew HO214.out)
        have n3_ := Aside0.mk (Kd.R_drew HO217.out)
        have n4_ := Aside0.mk (blk_drew BK199.out)
        have n5_ := Aside0.mk (blk_drew BK218.out)
        have n6_ := Aside0.mk (below_drew1 HB.out)
        clear HO205
        clear HO208
        clear HO214
        clear HO217
        clear BK199
        clear BK218
        clear HB
        have HO205 := n0_
        have HO208 := n1_
        have HO214 := n2_
        have HO217 := n3_
        have BK199 := n4_
        have BK218 := n5_
        have HB := n6_
        clear n0_ n1_ n2_ n3_ n4_ n5_ n6_
        refine start_ (n := 5) (S := fun w' => w'.cell? ⟨gb218, 0, none⟩ = some (.int .i64 t210) ∧ w'.cell? ⟨gb218, 1, none⟩ = some (.int .i64 t211) ∧ w'.cell? ⟨gb218, 2, none⟩ = some (.slice Ao29 t212.length co29) ∧ w'.cell? ⟨gb218, 3, none⟩ = some (.slice Ao30 t215.length co30) ∧ w'.cell? ⟨gb199, 0, none⟩ = some (.int .i64 a0_0) ∧ w'.cell? ⟨gb199, 1, none⟩ = some (.int .i64 a0_1) ∧ w'.cell? ⟨gb199, 2, none⟩ = some (.slice A0_2 l0_2.length c0_2) ∧ w'.cell? ⟨gb199, 3, none⟩ = some (.slice A0_3 l0_3.length c0_3)) (ds := []) #[false, false, false, false, false] (by kernel_rfl) rfl rfl ⟨(blk_cell BK218.out 0).trans rfl, (blk_cell BK218.out 1).trans rfl, (blk_cell BK218.out 2).trans rfl, (blk_cell BK218.out 3).trans rfl, (blk_cell BK199.out 0).trans rfl, (blk_cell BK199.out 1).trans rfl, (blk_cell BK199.out 2).trans rfl, (blk_cell BK199.out 3).trans rfl⟩ (fun hHeld => ?_)
        generalize w31.drew = w32 at HO205 HO208 HO214 HO217 BK199 BK218 HB hHeld ⊢
        refine take_ (i := 0) (N := some 26) (v := ?_) (a' := ?_) #[true, false, false, false, false] rfl rfl (by kernel_rfl) (fun _ _ _ h => h) (Or.inl ⟨by rfl, ?_⟩) hHeld ?_ ?_
        rotate_left
        · rintro w' ⟨s0, s1, s2, s3, s4, s5, s6, s7⟩
          go_simp
          with_reducible rfl
        rotate_left
        · simp only [Act.put, List.setIfInBounds_toArray, List.set_cons_zero, List.set_cons_succ, i64_w, i32_w]
          rfl
        refine take_ (i := 1) (N := some 27) (v := ?_) (a' := ?_) #[true, true, false, false, false] rfl rfl (by kernel_rfl) (fun _ _ _ h => h) (Or.inl ⟨by rfl, ?_⟩) hHeld ?_ ?_
        rotate_left
        · rintro w' ⟨s0, s1, s2, s3, s4, s5, s6, s7⟩
          go_simp
          with_reducible rfl
        rotate_left
        · simp only [Act.put, List.setIfInBounds_toArray, List.set_cons_zero, List.set_cons_succ, i64_w, i32_w]
          rfl
        refine one_ (i := 2) (N := some 28) #[true, true, true, false, false] rfl rfl (by kernel_rfl) (by decide) (fun K hK => ?_)
        refine goes_ Try.func11 (by kernel_rfl) rfl #[.agg #[.int .i64 a0_0, .int .i64 a0_1, .slice A0_2 l0_2.length c0_2, .slice A0_3 l0_3.length c0_3]] (by rfl) rfl rfl (by (try simp only [List.map_toArray, List.map_cons, List.map_nil]); first | done | rfl | (simp only [List.length_drop, List.length_take]; first | done | rfl)) ?_
        with_reducible refine (laws_toSched.calls k a0_0 a0_1 _ _ l0_2 _ _ l0_3 t220 t221 t222 t225 _ ?side1 ?side2 ?side3 ?side4 A13.out).mono ?_
        (case side1 => repeat (first | exact (Kd.C_below HR0_2.out HB.out) | (with_reducible refine Kd.C_alloc ?_ _) | (with_reducible refine Kd.C_drewN ?_ _) | (with_reducible refine Kd.C_drew ?_)))
        (case side2 => exact HC0_2.out)
        (case side3 => repeat (first | exact (Kd.C_below HR0_3.out HB.out) | (with_reducible refine Kd.C_alloc ?_ _) | (with_reducible refine Kd.C_drewN ?_ _) | (with_reducible refine Kd.C_drew ?_)))
        (case side4 => exact HC0_3.out)
        rintro e w33 ⟨v223, v226, rfl, ho0, ho1, hb⟩
        refine ⟨_, rfl, ?_⟩
        have n0_ := Aside0.mk (Kd.R_elder' (by (with_reducible repeat (first | apply Kd.R_alloc | apply Kd.R_drewN | apply Kd.R_drew)); exact HO205.out) (Kd.R_base ho0) hb)
        have n1_ := Aside0.mk (Kd.R_elder' (by (with_reducible repeat (first | apply Kd.R_alloc | apply Kd.R_drewN | apply Kd.R_drew)); exact HO208.out) (Kd.R_base ho1) hb)
        have n2_ := Aside0.mk (Kd.R_elder' (by (with_reducible repeat (first | apply Kd.R_alloc | apply Kd.R_drewN | apply Kd.R_drew)); exact HO214.out) (Kd.R_base ho0) hb)
        have n3_ := Aside0.mk (Kd.R_elder' (by (with_reducible repeat (first | apply Kd.R_alloc | apply Kd.R_drewN | apply Kd.R_drew)); exact HO217.out) (Kd.R_base ho1) hb)
        have n4_ := Aside0.mk (Kd.R_lower (Kd.R_new' (Kd.R_new' ho0 (Kd.R_lt (by (with_reducible repeat (first | apply Kd.R_alloc | apply Kd.R_drewN | apply Kd.R_drew)); exact HO205.out))) (Kd.R_lt (by (with_reducible repeat (first | apply Kd.R_alloc | apply Kd.R_drewN | apply Kd.R_drew)); exact HO214.out))) (below_size (by repeat (first | (with_reducible first | exact HB.out | apply below_alloc | apply pw_below_drewN | apply below_drew1 | refine below_set ?_ GE199.out | refine below_set ?_ GE218.out) | exact HB.out))))
        have n5_ := Aside0.mk (Kd.R_lower (Kd.R_new' (Kd.R_new' ho1 (Kd.R_lt (by (with_reducible repeat (first | apply Kd.R_alloc | apply Kd.R_drewN | apply Kd.R_drew)); exact HO208.out))) (Kd.R_lt (by (with_reducible repeat (first | apply Kd.R_alloc | apply Kd.R_drewN | apply Kd.R_drew)); exact HO217.out))) (below_size (by repeat (first | (with_reducible first | exact HB.out | apply below_alloc | apply pw_below_drewN | apply below_drew1 | refine below_set ?_ GE199.out | refine below_set ?_ GE218.out) | exact HB.out))))
        have n6_ := Aside0.mk (blk_below (g := gb199) (o := .cells #[.int .i64 a0_0, .int .i64 a0_1, .slice A0_2 l0_2.length c0_2, .slice A0_3 l0_3.length c0_3] 25 (0, 0)) (by (with_reducible repeat (first | refine blk_drewN ?_ _ | refine blk_drew ?_ | refine blk_alloc ?_ _)); exact BK199.out) hb)
        have n7_ := Aside0.mk (blk_below (g := gb218) (o := .cells #[.int .i64 t210, .int .i64 t211, .slice Ao29 t212.length co29, .slice Ao30 t215.length co30] 31 (0, 0)) (by (with_reducible repeat (first | refine blk_drewN ?_ _ | refine blk_drew ?_ | refine blk_alloc ?_ _)); exact BK218.out) hb)
        have n8_ := Aside0.mk (below_step (by repeat (first | (with_reducible first | exact HB.out | apply below_alloc | apply pw_below_drewN | apply below_drew1 | refine below_set ?_ GE199.out | refine below_set ?_ GE218.out) | exact HB.out)) hb)
        clear HO205
        clear HO208
        clear HO214
        clear HO217
        clear BK199
        clear BK218
        clear HB
        have HO205 := n0_
        have HO208 := n1_
        have HO214 := n2_
        have HO217 := n3_
        have HO224 := n4_
        have HO227 := n5_
        have BK199 := n6_
        have BK218 := n7_
        have HB := n8_
        clear n0_ n1_ n2_ n3_ n4_ n5_ n6_ n7_ n8_
        (try clear hb)
        (try clear hb2)
        (try clear hk)
        (try clear hi)
        (try clear ho0)
        (try clear ho1)
        obtain ⟨Ao34, co34, eo34⟩ := Kd.R_slice HO224.out
        (first | subst eo34 | (injection eo34 with f1_ f2_ f3_; have f4_ := f1_.symm; have f5_ := f3_.symm; clear f1_ f2_ f3_; subst f4_; subst f5_))
        obtain ⟨Ao35, co35, eo35⟩ := Kd.R_slice HO227.out
        (first | subst eo35 | (injection eo35 with f1_ f2_ f3_; have f4_ := f1_.symm; have f5_ := f3_.symm; clear f1_ f2_ f3_; subst f4_; subst f5_))
        refine hK.out _ _ ⟨(blk_cell BK218.out 0).trans rfl, (blk_cell BK218.out 1).trans rfl, (blk_cell BK218.out 2).trans rfl, (blk_cell BK218.out 3).trans rfl, (blk_cell BK199.out 0).trans rfl, (blk_cell BK199.out 1).trans rfl, (blk_cell BK199.out 2).trans rfl, (blk_cell BK199.out 3).trans rfl⟩ (fun hHeld => ?_)
        clear hK K
        refine norm_ (a' := ?_) ?_ ?_
        rotate_left
        · show Act.put _ (some 28) _ = _
          simp only [Act.put, List.setIfInBounds_toArray, List.set_cons_zero, List.set_cons_succ, i64_w, i32_w]
          rfl
        refine one_ (i := 3) (N := some 29) #[true, true, true, true, false] rfl rfl (by kernel_rfl) (by decide) (fun K hK => ?_)
        refine goes_ Try.func13 (by kernel_rfl) rfl #[.agg #[.int .i64 t210, .int .i64 t211, .slice Ao29 t212.length co29, .slice Ao30 t215.length co30], .agg #[.int .i64 t220, .int .i64 t221, .slice Ao34 t222.length co34, .slice Ao35 t225.length co35]] (by rfl) rfl rfl (by (try simp only [List.map_toArray, List.map_cons, List.map_nil]); first | done | rfl | (simp only [List.length_drop, List.length_take]; first | done | rfl)) ?_
        with_reducible refine (laws_eqSched.calls k t210 t211 _ _ t212 _ _ t215 t220 t221 _ _ t222 _ _ t225 true _ ?side1 ?side2 ?side3 ?side4 ?side5 ?side6 ?side7 ?side8 A14.out).mono ?_
        (case side1 => repeat (first | exact (Kd.R_reads' HO214.out).2.2 | (with_reducible refine Kd.C_alloc ?_ _) | (with_reducible refine Kd.C_drewN ?_ _) | (with_reducible refine Kd.C_drew ?_)))
        (case side2 => exact (Kd.R_reads' HO214.out).2.1)
        (case side3 => repeat (first | exact (Kd.R_reads' HO217.out).2.2 | (with_reducible refine Kd.C_alloc ?_ _) | (with_reducible refine Kd.C_drewN ?_ _) | (with_reducible refine Kd.C_drew ?_)))
        (case side4 => exact (Kd.R_reads' HO217.out).2.1)
        (case side5 => repeat (first | exact (Kd.R_reads' HO224.out).2.2 | (with_reducible refine Kd.C_alloc ?_ _) | (with_reducible refine Kd.C_drewN ?_ _) | (with_reducible refine Kd.C_drew ?_)))
        (case side6 => exact (Kd.R_reads' HO224.out).2.1)
        (case side7 => repeat (first | exact (Kd.R_reads' HO227.out).2.2 | (with_reducible refine Kd.C_alloc ?_ _) | (with_reducible refine Kd.C_drewN ?_ _) | (with_reducible refine Kd.C_drew ?_)))
        (case side8 => exact (Kd.R_reads' HO227.out).2.1)
        rintro e w36 ⟨rfl, hb⟩
        refine ⟨_, rfl, ?_⟩
        have n0_ := Aside0.mk (Kd.R_below (by (with_reducible repeat (first | apply Kd.R_alloc | apply Kd.R_drewN | apply Kd.R_drew)); exact HO205.out) hb)
        have n1_ := Aside0.mk (Kd.R_below (by (with_reducible repeat (first | apply Kd.R_alloc | apply Kd.R_drewN | apply Kd.R_drew)); exact HO208.out) hb)
        have n2_ := Aside0.mk (Kd.R_below (by (with_reducible repeat (first | apply Kd.R_alloc | apply Kd.R_drewN | apply Kd.R_drew)); exact HO214.out) hb)
        have n3_ := Aside0.mk (Kd.R_below (by (with_reducible repeat (first | apply Kd.R_alloc | apply Kd.R_drewN | apply Kd.R_drew)); exact HO217.out) hb)
        have n4_ := Aside0.mk (Kd.R_below (by (with_reducible repeat (first | apply Kd.R_alloc | apply Kd.R_drewN | apply Kd.R_drew)); exact HO224.out) hb)
        have n5_ := Aside0.mk (Kd.R_below (by (with_reducible repeat (first | apply Kd.R_alloc | apply Kd.R_drewN | apply Kd.R_drew)); exact HO227.out) hb)
        have n6_ := Aside0.mk (blk_below (g := gb199) (o := .cells #[.int .i64 a0_0, .int .i64 a0_1, .slice A0_2 l0_2.length c0_2, .slice A0_3 l0_3.length c0_3] 25 (0, 0)) (by (with_reducible repeat (first | refine blk_drewN ?_ _ | refine blk_drew ?_ | refine blk_alloc ?_ _)); exact BK199.out) hb)
        have n7_ := Aside0.mk (blk_below (g := gb218) (o := .cells #[.int .i64 t210, .int .i64 t211, .slice Ao29 t212.length co29, .slice Ao30 t215.length co30] 31 (0, 0)) (by (with_reducible repeat (first | refine blk_drewN ?_ _ | refine blk_drew ?_ | refine blk_alloc ?_ _)); exact BK218.out) hb)
        have n8_ := Aside0.mk (below_step (by repeat (first | (with_reducible first | exact HB.out | apply below_alloc | apply pw_below_drewN | apply below_drew1 | refine below_set ?_ GE199.out | refine below_set ?_ GE218.out) | exact HB.out)) hb)
        clear HO205
        clear HO208
        clear HO214
        clear HO217
        clear HO224
        clear HO227
        clear BK199
        clear BK218
        clear HB
        have HO205 := n0_
        have HO208 := n1_
        have HO214 := n2_
        have HO217 := n3_
        have HO224 := n4_
        have HO227 := n5_
        have BK199 := n6_
        have BK218 := n7_
        have HB := n8_
        clear n0_ n1_ n2_ n3_ n4_ n5_ n6_ n7_ n8_
        (try clear hb)
        (try clear hb2)
        (try clear hk)
        (try clear hi)
        refine hK.out _ _ ⟨(blk_cell BK218.out 0).trans rfl, (blk_cell BK218.out 1).trans rfl, (blk_cell BK218.out 2).trans rfl, (blk_cell BK218.out 3).trans rfl, (blk_cell BK199.out 0).trans rfl, (blk_cell BK199.out 1).trans rfl, (blk_cell BK199.out 2).trans rfl, (blk_cell BK199.out 3).trans rfl⟩ (fun hHeld => ?_)
        clear hK K
        refine norm_ (a' := ?_) ?_ ?_
        rotate_left
        · show Act.put _ (some 29) _ = _
          simp only [Act.put, List.setIfInBounds_toArray, List.set_cons_zero, List.set_cons_succ, i64_w, i32_w]
          rfl
        refine pure_ (i := 4) (N := some 30) (v := ?_) (a' := ?_) #[true, true, true, true, true] rfl rfl (by kernel_rfl) (fun _ _ _ h => h) (Or.inl ⟨by rfl, ?_⟩) ?_ ?_
        rotate_left
        · intro w'
          go_simp
          with_reducible rfl
        rotate_left
        · simp only [Act.put, List.setIfInBounds_toArray, List.set_cons_zero, List.set_cons_succ, i64_w, i32_w]
          rfl
        refine done_ (by kernel_rfl) ?_
        try go_wp2
        go_ret
        exact ⟨by first | rfl | (simp [errW_none, errW_some] <;> rfl) | (simp [*, errW_none, errW_some] <;> rfl), by repeat (first | (with_reducible first | exact HB.out | apply below_alloc | apply pw_below_drewN | apply below_drew1 | refine below_set ?_ GE199.out | refine below_set ?_ GE218.out) | exact HB.out)⟩
      · replace c15 := Bool.eq_false_iff.mpr c15
        subst c15
        have H1 : (none) = some r := by rw [if_neg (show ¬ (false = true) by decide)] at H; exact H
        clear H
        have H := H1
        clear H1
        exact absurd H (by simp)
    · rw [if_neg c12] at H
      exact absurd H (by simp)

def laws_FnExactPriority.wf98 (x : S98) : Prop := ((Lit.int .i64 x.f0).wf = true) ∧ ((Lit.int .i64 x.f1).wf = true) ∧ ((Lit.int .i64 x.f2).wf = true) ∧ ((Lit.int .i64 x.f3).wf = true) ∧ ((Lit.int .i64 x.f4).wf = true) ∧ ((Lit.int .i64 x.f5).wf = true) ∧ ((Lit.int .i64 x.f6).wf = true) ∧ ((Lit.int .i64 x.f7).wf = true)
def laws_FnExactPriority.wf100 (x : S100) : Prop := ((Lit.int .i64 x.f0).wf = true) ∧ ((Lit.int .i64 x.f1).wf = true)
def laws_FnExactPriority.wf25 (x : S25) : Prop := ((Lit.int .i64 x.f0).wf = true) ∧ ((Lit.int .i64 x.f1).wf = true) ∧ (x.f2.length ≤ maxLen ∧ ∀ y_ ∈ x.f2, laws_FnExactPriority.wf98 y_) ∧ (x.f3.length ≤ maxLen ∧ ∀ y_ ∈ x.f3, laws_FnExactPriority.wf100 y_)
/-- THE ONE PURE STATEMENT of laws_FnExactPriority: yours. -/
def laws_FnExactPriority.Pure : Prop := ∀ (a0_0 : Int) (a0_1 : Int) (l0_2 : List (S98)) (l0_3 : List (S100)) (a1 : Int), laws_FnExactPriority.wf25 (⟨a0_0, a0_1, l0_2, l0_3⟩ : S25) → (Lit.int .i64 a1).wf = true → ∃ k, laws_FnExactPriority.f k a0_0 a0_1 l0_2 l0_3 a1 = some true
theorem laws_FnExactPriority.walk (P : laws_FnExactPriority.Pure) (a0_0 : Int) (a0_1 : Int) (A0_2 : Option Addr) (c0_2 : Nat) (l0_2 : List (S98)) (A0_3 : Option Addr) (c0_3 : Nat) (l0_3 : List (S100)) (a1 : Int) (w : World) (hr0_2 : Kd.C k98 w A0_2 l0_2.length l0_2) (hc0_2 : l0_2.length ≤ c0_2) (hr0_3 : Kd.C k100 w A0_3 l0_3.length l0_3) (hc0_3 : l0_3.length ≤ c0_3) (hq0 : laws_FnExactPriority.wf25 (⟨a0_0, a0_1, l0_2, l0_3⟩ : S25)) (w1 : (Lit.int .i64 a1).wf = true) :
    Calls Try.prog 4 #[.agg #[.int .i64 a0_0, .int .i64 a0_1, .slice A0_2 l0_2.length c0_2, .slice A0_3 l0_3.length c0_3], .int .i64 a1] w fun e w' => e = .returned (.bool true) ∧ Below w.heap.size w w' := by
  obtain ⟨k, h⟩ := P a0_0 a0_1 l0_2 l0_3 a1 hq0 w1
  refine (laws_FnExactPriority.calls k a0_0 a0_1 _ _ l0_2 _ _ l0_3 a1 true w hr0_2 hc0_2 hr0_3 hc0_3 h).mono ?_
  rintro e w' ⟨rfl, hd⟩
  exact ⟨rfl, hd⟩

end Go.Proofs.Ytdlgalaemnjfjaa.PFnExactPriority
