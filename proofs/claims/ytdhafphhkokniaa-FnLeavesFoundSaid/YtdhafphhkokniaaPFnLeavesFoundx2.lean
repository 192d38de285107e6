-- Written by a program of this session out of the translation. Not trusted: Lean checks it.
import Derived.Test.YtdhafphhkokniaaPFnLeavesFoundx0
import Derived.Test.YtdhafphhkokniaaPFnLeavesFoundx1
namespace Go.Proofs.Ytdhafphhkokniaa.PFnLeavesFound
open Go.RowKit Go.Proofs.YtdhafphhkokniaaW.PrintWords Go.Proofs.YtdhafphhkokniaaW.PrintLast Go.Proofs.YtdhafphhkokniaaW.PrintMore
attribute [local go_sem] max2_int min2_int max_two min_two max_three min_three max_four min_four   -- for this text's walks alone
set_option linter.unusedVariables false
set_option linter.unusedSimpArgs false
theorem Z2_10 {P : Prop} (h : P := by first | rfl | exact congrArg (Value.int .i64) (i64_w _) | (simp; done) | (simp [*]; done)) : P := h
theorem Z2_9 {P : Prop} (h : P := by first | rfl | (simp [errW_none, errW_some] <;> rfl) | (simp [*, errW_none, errW_some] <;> rfl)) : P := h
theorem Z2_8 {P : Prop} (h : P := by kernel_rfl) : P := h
theorem Z2_7 {P : Prop} (h : P := by first | (go_simp; done) | (go_simp; rfl)) : P := h
theorem Z2_6 {P : Prop} (h : P := by (try simp only [List.map_toArray, List.map_cons, List.map_nil]); first | done | rfl) : P := h
theorem Z2_5 {P : Prop} (h : P := by repeat (first | (with_reducible first | exact HB.out | apply below_alloc | apply pw_below_drewN | apply below_drew1) | exact HB.out)) : P := h
theorem Z2_4 {P : Prop} (h : P := by (with_reducible repeat (first | apply blk_drewN | apply blk_drew | apply blk_alloc)); exact BK121.out) : P := h
theorem Z2_3 {P : Prop} (h : P := by (try simp only [List.map_toArray, List.map_cons, List.map_nil]); first | done | rfl | (simp only [List.length_drop, List.length_take]; first | done | rfl)) : P := h
theorem Z2_2 {P : Prop} (h : P := by repeat (first | exact (Kd.C_below HR0.out HB.out) | (with_reducible refine Kd.C_alloc ?_ _) | (with_reducible refine Kd.C_drewN ?_ _) | (with_reducible refine Kd.C_drew ?_))) : P := h
theorem Z2_1 {P : Prop} (h : P := by repeat (first | (with_reducible first | exact HB.out | apply below_alloc | apply pw_below_drewN | apply below_drew1 | refine below_set ?_ GE121.out) | exact HB.out)) : P := h

/-! ### impl_translate: function 54 -/
/-- What the walk over the tables tells: the fault, the level, the entry's place, the place and the new entry. -/
def impl_translate.sh (L : Int) : Int := wrap64 (8 + wrap64 (5 * L))
def impl_translate.at (t L va : Int) : Int := wrap64 (wrap64 (t * 256) + wrap64 (wrap64 (Go.bits .and .u64 (va / 2 ^ (8 + 5 * L).toNat) 31) * 8))
def impl_translate.l0 : Nat → List Int → Int → Int → Int → Int → Bool → Option (Int × Int × Int × Int × Int)
 | 0, _, _, _, _, _, _ => none
 | k + 1, m, t, L, va, ac, us =>
  if 0 ≤ L ∧ L ≤ 2 then
   (if t < 0 ∨ t ≥ wrap64 ((m.length : Int) / 256) then some (3, L, 0, 0, 0) else
    (impl_LoadWord.f k m (impl_translate.at t L va) 8 false).bind fun x => (impl_entryOf.f x.1).bind fun e =>
    if e.1 = false then some (4, L, impl_translate.at t L va, 0, 0) else
    if x.1 / 1048576 ≠ 0 ∨ (e.2.2.1 = true ∧ e.2.1 = false) then some (5, L, impl_translate.at t L va, 0, 0) else
    if e.2.1 = false ∧ e.2.2.1 = false ∧ e.2.2.2.1 = false then
     (if e.2.2.2.2.1 = true ∨ e.2.2.2.2.2.1 = true ∨ e.2.2.2.2.2.2.1 = true ∨ L = 0 then some (5, L, impl_translate.at t L va, 0, 0)
      else impl_translate.l0 k m e.2.2.2.2.2.2.2.2 (L - 1) va ac us) else
    if Int.tmod e.2.2.2.2.2.2.2.2 (2 ^ (5 * L).toNat) ≠ 0 then some (6, L, impl_translate.at t L va, 0, 0) else
    if us = true ∧ e.2.2.2.2.1 = false then some (7, L, impl_translate.at t L va, 0, 0) else
    if ¬ ((ac = 0 ∧ e.2.1 = true) ∨ (ac = 1 ∧ e.2.2.1 = true) ∨ (ac = 2 ∧ e.2.2.2.1 = true)) then some (8, L, impl_translate.at t L va, 0, 0) else
    (impl_PutEntry.f k e.1 e.2.1 e.2.2.1 e.2.2.2.1 e.2.2.2.2.1 true (e.2.2.2.2.2.2.1 || decide (ac = 1)) e.2.2.2.2.2.2.2.1 e.2.2.2.2.2.2.2.2).bind fun y =>
     some (0, L, impl_translate.at t L va, wrap64 (wrap64 (e.2.2.2.2.2.2.2.2 * 256) + wrap64 (Go.bits .and .u64 va (2 ^ (8 + 5 * L).toNat - 1))), y.1))
  else none
def impl_translate.f (k : Nat) (l0 : List Int) (a1 a2 a3 : Int) (a4 : Bool) : Option (Int × Int × Int × Int × Int) := impl_translate.l0 k l0 a1 2 a2 a3 a4
theorem impl_translate.mono_l : ∀ k, (∀ y0 y1 y2 y3 y4 y5, LeO (impl_translate.l0 k y0 y1 y2 y3 y4 y5) (impl_translate.l0 (k + 1) y0 y1 y2 y3 y4 y5))
 | 0 => fun _ _ _ _ _ _ r h => by simp [impl_translate.l0] at h
 | k + 1 => by
  have ih0 := impl_translate.mono_l k
  intro y0 y1 y2 y3 y4 y5
  unfold impl_translate.l0
  repeat' first
  | (with_reducible exact ih0 _ _ _ _ _ _)
  | (with_reducible exact impl_LoadWord.mono _ _ _ _ _)
  | (with_reducible exact impl_PutEntry.mono _ _ _ _ _ _ _ _ _ _)
  | (with_reducible exact LeO.refl _)
  | (with_reducible exact LeO.none _)
  | (with_reducible refine LeO.ite ?_ ?_)
  | (with_reducible refine LeO.bind ?_ (fun _ => ?_))
  | exact ih0 _ _ _ _ _ _
  | exact impl_LoadWord.mono _ _ _ _ _
  | exact impl_PutEntry.mono _ _ _ _ _ _ _ _ _ _
  | exact LeO.refl _
  | refine LeO.ite ?_ ?_
  | refine LeO.bind ?_ (fun _ => ?_)
theorem impl_translate.mono : ∀ a0 a1 a2 a3 a4 k, LeO (impl_translate.f k a0 a1 a2 a3 a4) (impl_translate.f (k + 1) a0 a1 a2 a3 a4) := fun _ _ _ _ _ k => impl_translate.mono_l k _ _ _ _ _ _
theorem impl_translate.pow3 {L : Int} (h : 0 ≤ L ∧ L ≤ 2) : (2 : Int) ^ (5 * L).toNat = 1 ∨ (2 : Int) ^ (5 * L).toNat = 32 ∨ (2 : Int) ^ (5 * L).toNat = 1024 := by
 have h3 : L = 0 ∨ L = 1 ∨ L = 2 := by omega
 rcases h3 with rfl | rfl | rfl
 ·exact .inl rfl
 ·exact .inr (.inl rfl)
 exact .inr (.inr rfl)
theorem impl_translate.wrap3 {z : Int} (h : z = 1 ∨ z = 32 ∨ z = 1024) : IntKind.i64.wrap (1 * z) = z := by
 rcases h with rfl | rfl | rfl <;> decide
theorem impl_translate.pow8 {L : Int} (h : 0 ≤ L ∧ L ≤ 2) : (2 : Int) ^ (8 + 5 * L).toNat = 256 ∨ (2 : Int) ^ (8 + 5 * L).toNat = 8192 ∨ (2 : Int) ^ (8 + 5 * L).toNat = 262144 := by
 have h3 : L = 0 ∨ L = 1 ∨ L = 2 := by omega
 rcases h3 with rfl | rfl | rfl
 ·exact .inl rfl
 ·exact .inr (.inl rfl)
 exact .inr (.inr rfl)
theorem impl_translate.wrap8 {z : Int} (h : z = 256 ∨ z = 8192 ∨ z = 262144) : IntKind.u64.wrap (1 * z) = z ∧ IntKind.u64.wrap (z - 1) = z - 1 := by
 rcases h with rfl | rfl | rfl <;> decide
theorem impl_translate.put5 {W : World} {g : Nat} {z0 z1 z2 z3 z4 a b c d e : Value} (h : W.heap[g]? = some (.cells #[z0, z1, z2, z3, z4] 36 (0, 0))) :
  (((((W.setCell ⟨g, 0, none⟩ a).setCell ⟨g, 1, none⟩ b).setCell ⟨g, 2, none⟩ c).setCell ⟨g, 3, none⟩ d).setCell ⟨g, 4, none⟩ e).heap[g]? = some (.cells #[a, b, c, d, e] 36 (0, 0)) := by
 refine blk_put (cs := #[a, b, c, d, z4]) ?_ 4 _ rfl
 refine blk_put (cs := #[a, b, c, z3, z4]) ?_ 3 _ rfl
 refine blk_put (cs := #[a, b, z2, z3, z4]) ?_ 2 _ rfl
 refine blk_put (cs := #[a, z1, z2, z3, z4]) ?_ 1 _ rfl
 exact blk_put h 0 _ rfl
theorem impl_translate.far5 {w W : World} {g : Nat} {a b c d e : Value} (h : Below w.heap.size w W) (hg : w.heap.size ≤ g) : Below w.heap.size w (((((W.setCell ⟨g, 0, none⟩ a).setCell ⟨g, 1, none⟩ b).setCell ⟨g, 2, none⟩ c).setCell ⟨g, 3, none⟩ d).setCell ⟨g, 4, none⟩ e) :=
 below_set (below_set (below_set (below_set (below_set h hg) hg) hg) hg) hg
set_option maxHeartbeats 4000000 in
theorem impl_translate.clo (f L a : Int) (p q : Addr) (w : World) (h1 : w.cell? p = some (.int .i64 L)) (h2 : w.cell? q = some (.int .i64 a)) :
  Calls Try.prog 90 #[.int .i64 f, .pointer (some p), .pointer (some q)] w fun e w' => e = .returned (.agg #[.int .i64 f, .int .i64 L, .int .i64 a, .int .i64 0, .int .u64 0]) ∧ Below w.heap.size w w' := by
 have HB := Aside0.mk (Below.refl w.heap.size w)
 go_enter Try.func90, Try.ntmps90
 go_wp2_with (first | ((with_reducible refine gate_dst (N := 4) rfl ?_); refine box_event ?hg (N := 4) ?hd (cs := #[.int .i64 0, .int .i64 0, .int .i64 0, .int .i64 0, .int .u64 0]) (t := 36) ?hr ?_; (case hd => rfl); (case hg => rfl); (case hr => exact Z2_7); intro gb hg w8 hbox hb; have h1' := pw_cell_below hb h1; have h2' := pw_cell_below hb h2; have HBn := Aside0.mk (below_step HB.out hb); have BK := Aside0.mk hbox; have GE := Aside0.mk (show w.heap.size ≤ gb by rw [hg]; exact Nat.le_refl _); clear HB hb hbox hg; have HB := HBn; clear HBn; have hcz_0 : w8.cell? ⟨gb, 0, none⟩ = some (.int .i64 0) := (blk_cell BK.out 0).trans rfl; have hfz_0 := blk_frozen BK.out 0; have hcz_1 : w8.cell? ⟨gb, 1, none⟩ = some (.int .i64 0) := (blk_cell BK.out 1).trans rfl; have hfz_1 := blk_frozen BK.out 1; have hcz_2 : w8.cell? ⟨gb, 2, none⟩ = some (.int .i64 0) := (blk_cell BK.out 2).trans rfl; have hfz_2 := blk_frozen BK.out 2; have hcz_3 : w8.cell? ⟨gb, 3, none⟩ = some (.int .i64 0) := (blk_cell BK.out 3).trans rfl; have hfz_3 := blk_frozen BK.out 3; have hcz_4 : w8.cell? ⟨gb, 4, none⟩ = some (.int .u64 0) := (blk_cell BK.out 4).trans rfl; have hfz_4 := blk_frozen BK.out 4))
 refine bodyPost_ret (results_cell_row rfl _ _ gb 36 #[.int .i64 f, .int .i64 L, .int .i64 a, .int .i64 0, .int .u64 0] (0, 0) _ rfl (impl_translate.put5 BK.out) Try.underlying36 rfl Z2_8) rfl ?_
 exact ⟨rfl, impl_translate.far5 HB.out GE.out⟩
theorem impl_translate.put9 {W : World} {g : Nat} {z0 z1 z2 z3 z4 z5 z6 z7 z8 u0 u1 u2 u3 u4 u5 u6 u7 u8 : Value} (h : W.heap[g]? = some (.cells #[z0, z1, z2, z3, z4, z5, z6, z7, z8] 27 (0, 0))) :
  (((((((((W.setCell ⟨g, 0, none⟩ u0).setCell ⟨g, 1, none⟩ u1).setCell ⟨g, 2, none⟩ u2).setCell ⟨g, 3, none⟩ u3).setCell ⟨g, 4, none⟩ u4).setCell ⟨g, 5, none⟩ u5).setCell ⟨g, 6, none⟩ u6).setCell ⟨g, 7, none⟩ u7).setCell ⟨g, 8, none⟩ u8).heap[g]? = some (.cells #[u0, u1, u2, u3, u4, u5, u6, u7, u8] 27 (0, 0)) := by
 refine blk_put (cs := #[u0, u1, u2, u3, u4, u5, u6, u7, z8]) ?_ 8 _ rfl
 refine blk_put (cs := #[u0, u1, u2, u3, u4, u5, u6, z7, z8]) ?_ 7 _ rfl
 refine blk_put (cs := #[u0, u1, u2, u3, u4, u5, z6, z7, z8]) ?_ 6 _ rfl
 refine blk_put (cs := #[u0, u1, u2, u3, u4, z5, z6, z7, z8]) ?_ 5 _ rfl
 refine blk_put (cs := #[u0, u1, u2, u3, z4, z5, z6, z7, z8]) ?_ 4 _ rfl
 refine blk_put (cs := #[u0, u1, u2, z3, z4, z5, z6, z7, z8]) ?_ 3 _ rfl
 refine blk_put (cs := #[u0, u1, z2, z3, z4, z5, z6, z7, z8]) ?_ 2 _ rfl
 refine blk_put (cs := #[u0, z1, z2, z3, z4, z5, z6, z7, z8]) ?_ 1 _ rfl
 refine blk_put (cs := #[z0, z1, z2, z3, z4, z5, z6, z7, z8]) ?_ 0 _ rfl
 exact h
theorem impl_translate.far9 {W : World} {g q : Nat} {t : TypeId} {cs : Array Value} {u0 u1 u2 u3 u4 u5 u6 u7 u8 : Value} (h : W.heap[g]? = some (.cells cs t (0, 0))) (hn : g ≠ q) : (((((((((W.setCell ⟨q, 0, none⟩ u0).setCell ⟨q, 1, none⟩ u1).setCell ⟨q, 2, none⟩ u2).setCell ⟨q, 3, none⟩ u3).setCell ⟨q, 4, none⟩ u4).setCell ⟨q, 5, none⟩ u5).setCell ⟨q, 6, none⟩ u6).setCell ⟨q, 7, none⟩ u7).setCell ⟨q, 8, none⟩ u8).heap[g]? = some (.cells cs t (0, 0)) := (blk_far (blk_far (blk_far (blk_far (blk_far (blk_far (blk_far (blk_far (blk_far h hn _) hn _) hn _) hn _) hn _) hn _) hn _) hn _) hn _)
theorem impl_translate.below9 {w W : World} {q : Nat} {u0 u1 u2 u3 u4 u5 u6 u7 u8 : Value} (h : Below w.heap.size w W) (hg : w.heap.size ≤ q) : Below w.heap.size w (((((((((W.setCell ⟨q, 0, none⟩ u0).setCell ⟨q, 1, none⟩ u1).setCell ⟨q, 2, none⟩ u2).setCell ⟨q, 3, none⟩ u3).setCell ⟨q, 4, none⟩ u4).setCell ⟨q, 5, none⟩ u5).setCell ⟨q, 6, none⟩ u6).setCell ⟨q, 7, none⟩ u7).setCell ⟨q, 8, none⟩ u8) := (below_set (below_set (below_set (below_set (below_set (below_set (below_set (below_set (below_set h hg) hg) hg) hg) hg) hg) hg) hg) hg)
structure impl_translate.St (w W : World) (gr gl ga ge : Nat) (L a : Int) (cs : Array Value) : Prop where
 l : W.heap[gl]? = some (.cells #[.int .i64 L] 2 (0, 0))
 a : W.heap[ga]? = some (.cells #[.int .i64 a] 2 (0, 0))
 r : W.heap[gr]? = some (.cells #[.int .i64 0, .int .i64 0, .int .i64 0, .int .i64 0, .int .u64 0] 36 (0, 0))
 e : W.heap[ge]? = some (.cells cs 27 (0, 0))
 B : Below w.heap.size w W
theorem impl_translate.St.below {w W w1 : World} {gr gl ga ge : Nat} {L a : Int} {cs : Array Value} (h : impl_translate.St w W gr gl ga ge L a cs) (hb : Below W.heap.size W w1) : impl_translate.St w w1 gr gl ga ge L a cs :=
 ⟨blk_below h.l hb, blk_below h.a hb, blk_below h.r hb, blk_below h.e hb, below_step h.B hb⟩
theorem impl_translate.St.drew {w W : World} {gr gl ga ge : Nat} {L a : Int} {cs : Array Value} (h : impl_translate.St w W gr gl ga ge L a cs) (n : Nat) : impl_translate.St w (World.drewN W n) gr gl ga ge L a cs :=
 ⟨blk_drewN h.l n, blk_drewN h.a n, blk_drewN h.r n, blk_drewN h.e n, pw_below_drewN h.B n⟩
theorem impl_translate.St.drew1 {w W : World} {gr gl ga ge : Nat} {L a : Int} {cs : Array Value} (h : impl_translate.St w W gr gl ga ge L a cs) : impl_translate.St w (World.drew W) gr gl ga ge L a cs :=
 ⟨blk_drew h.l, blk_drew h.a, blk_drew h.r, blk_drew h.e, below_drew1 h.B⟩
theorem impl_translate.St.put {w W : World} {gr gl ga ge : Nat} {L a : Int} {cs cs' : Array Value} (h : impl_translate.St w W gr gl ga ge L a cs) (i : Nat) (u : Value) (e : cs.setIfInBounds i u = cs') (hl : gl ≠ ge) (ha : ga ≠ ge) (hr : gr ≠ ge) (hg : w.heap.size ≤ ge) : impl_translate.St w (W.setCell ⟨ge, i, none⟩ u) gr gl ga ge L a cs' :=
 ⟨blk_far h.l hl _, blk_far h.a ha _, blk_far h.r hr _, blk_put h.e i u e, below_set h.B hg⟩
theorem impl_translate.gen {P : Program} {c : Code} {Q : Exit → Act → World → Prop} {a : Act} {W : World} (S : World → Prop) (h : S W) (k : ∀ w5, S w5 → Code.wp P c Q a w5) : Code.wp P c Q a W := k W h
def impl_translate.path : List Bool → Code → Code
 | [], c => c
 | false :: r, .seq a _ => impl_translate.path r a
 | true :: r, .seq _ b => impl_translate.path r b
 | _ :: r, .block _ a => impl_translate.path r a
 | _ :: r, .loop a => impl_translate.path r a
 | _ :: _, c => c
set_option maxHeartbeats 8000000 in
set_option maxRecDepth 100000 in
theorem impl_translate.tail23 {k1 : Nat} {a2 a3 : Int} {a4 : Bool} {r1 r2 r3 r4 r5 : Int} {w w5 : World} {gr gl ga ge : Nat} {L p x e8 : Int} {e1 e2 e3 e4 e5 e6 e7 : Bool} {s0 s1 s5 s6 s7 s8 s9 s11 s16 s19 s20 s21 s22 s23 s24 s25 s26 s27 s28 s29 s30 s31 s32 s33 s34 s35 s36 s37 s38 s39 s40 s41 s42 s43 s44 s45 s46 s47 s48 s49 s50 s51 s52 s53 s54 s55 s56 s57 s58 s59 s60 s61 s62 s63 s64 s65 s66 s67 s68 s69 s70 s71 s72 s73 s74 s75 s76 s77 s78 s79 s80 s81 s82 s83 s84 s85 s86 s87 s88 s89 s90 s91 s92 s93 s94 s95 s96 s97 s98 s99 s100 s101 s102 s103 s104 s105 s106 s107 s108 s109 s110 s111 s112 s113 s114 s115 s116 s117 s118 s119 s120 s121 s122 s123 s124 s125 s126 s127 s128 s129 s130 s131 s132 s133 s134 s135 s136 s137 s138 s139 s140 s141 s142 s143 s144 s145 s146 s147 s148 s149 s150 s151 s152 s153 s154 s155 s156 s157 s158 s159 s160 s161 s162 s163 s164 s165 s166 s167 s168 s169 s170 s171 : Value} {Kc Kd K2 K3 : Act → World → Prop} {Q1 : Exit → Act → World → Prop}
  (GEr : Aside0 (w.heap.size ≤ gr)) (GEe : w.heap.size ≤ ge) (NBel : ge ≠ gl) (NBer : ge ≠ gr) (NBea : ge ≠ ga) (hL : 0 ≤ L ∧ L ≤ 2)
  (H : (if ¬ ((a3 = 0 ∧ e1 = true) ∨ (a3 = 1 ∧ e2 = true) ∨ (a3 = 2 ∧ e3 = true)) then some (8, L, p, 0, 0) else (impl_PutEntry.f k1 true e1 e2 e3 e4 true (e6 || decide (a3 = 1)) e7 e8).bind fun y => some (0, L, p, wrap64 (wrap64 (e8 * 256) + wrap64 (Go.bits .and .u64 a2 (2 ^ (8 + 5 * L).toNat - 1))), y.1)) = some (r1, r2, r3, r4, r5))
  (S5 : impl_translate.St w w5 gr gl ga ge L p #[.bool true, .bool e1, .bool e2, .bool e3, .bool e4, .bool e5, .bool e6, .bool e7, .int .i64 e8])
  (hQ : Aside0 (∀ a w2, (bodyPost Try.prog Try.f54 fun e w1 => e = .returned (.agg #[.int .i64 r1, .int .i64 r2, .int .i64 r3, .int .i64 r4, .int .u64 r5]) ∧ Below w.heap.size w w1) Exit.ret a w2 → Q1 Exit.ret a w2))
  (hc : ∀ a w2, Code.wp Try.prog (impl_translate.path [true, true, true, false, false, false, false, true, true, true, true, true, true, true, true, true, true, true, false, true] (Try.f54.body.getD .skip)) (Exit.then Kd (Exit.inBlock 1 (Exit.then K2 (Exit.then K3 (Exit.inBlock 0 Q1))))) a w2 → Kc a w2)
  (hd : ∀ a w2, Code.wp Try.prog (impl_translate.path [true, true, true, false, false, false, false, true, true, true, true, true, true, true, true, true, true, true, true] (Try.f54.body.getD .skip)) (Exit.inBlock 1 (Exit.then K2 (Exit.then K3 (Exit.inBlock 0 Q1)))) a w2 → Kd a w2)
  : Code.wp Try.prog (impl_translate.path [true, true, true, false, false, false, false, true, true, true, true, true, true, true, true, true, true, true, false, false] (Try.f54.body.getD .skip)) (Exit.then Kc (Exit.then Kd (Exit.inBlock 1 (Exit.then K2 (Exit.then K3 (Exit.inBlock 0 Q1)))))) { tmps := (List.toArray (s0 :: s1 :: (.int .u64 a2) :: (.int .i64 a3) :: (.bool a4) :: s5 :: s6 :: s7 :: s8 :: s9 :: (.pointer (some ⟨gr, 0, none⟩)) :: s11 :: (.pointer (some ⟨gl, 0, none⟩)) :: (.int .i64 (8 + 5 * L)) :: (.pointer (some ⟨ga, 0, none⟩)) :: (.int .u64 x) :: s16 :: (.pointer (some ⟨ge, 0, none⟩)) :: (.func (Fn.func 90) #[] #[.pointer (some ⟨gl, 0, none⟩), .pointer (some ⟨ga, 0, none⟩)]) :: s19 :: s20 :: s21 :: s22 :: s23 :: s24 :: s25 :: s26 :: s27 :: s28 :: s29 :: s30 :: s31 :: s32 :: s33 :: s34 :: s35 :: s36 :: s37 :: s38 :: s39 :: s40 :: s41 :: s42 :: s43 :: s44 :: s45 :: s46 :: s47 :: s48 :: s49 :: s50 :: s51 :: s52 :: s53 :: s54 :: s55 :: s56 :: s57 :: s58 :: s59 :: s60 :: s61 :: s62 :: s63 :: s64 :: s65 :: s66 :: s67 :: s68 :: s69 :: s70 :: s71 :: s72 :: s73 :: s74 :: s75 :: s76 :: s77 :: s78 :: s79 :: s80 :: s81 :: s82 :: s83 :: s84 :: s85 :: s86 :: s87 :: s88 :: s89 :: s90 :: s91 :: s92 :: s93 :: s94 :: s95 :: s96 :: s97 :: s98 :: s99 :: s100 :: s101 :: s102 :: s103 :: s104 :: s105 :: s106 :: s107 :: s108 :: s109 :: s110 :: s111 :: s112 :: s113 :: s114 :: s115 :: s116 :: s117 :: s118 :: s119 :: s120 :: s121 :: s122 :: s123 :: s124 :: s125 :: s126 :: s127 :: s128 :: s129 :: s130 :: s131 :: s132 :: s133 :: s134 :: s135 :: s136 :: s137 :: s138 :: s139 :: s140 :: s141 :: s142 :: s143 :: s144 :: s145 :: s146 :: s147 :: s148 :: s149 :: s150 :: s151 :: s152 :: s153 :: s154 :: s155 :: s156 :: s157 :: s158 :: s159 :: s160 :: s161 :: s162 :: s163 :: s164 :: s165 :: s166 :: s167 :: s168 :: s169 :: s170 :: s171 :: [])), defers := [] } w5 := by
 have hu36 := Try.underlying36
 have hu27 := Try.underlying27
 have hs0 : wrap64 (5 * L) = 5 * L := by unfold wrap64; omega
 replace hc := fun a w2 (h : Code.wp Try.prog (Code.cond _ _ _) _ a w2) => hc a w2 h
 replace hd := fun a w2 (h : Code.wp Try.prog (Code.seq _ _) _ a w2) => hd a w2 h
 change Code.wp _ (Code.region _ _ _) _ _ _
 have hce_0 : w5.cell? ⟨ge, 0, none⟩ = some (.bool true) := (blk_cell S5.e 0).trans rfl
 have hce_1 : w5.cell? ⟨ge, 1, none⟩ = some (.bool e1) := (blk_cell S5.e 1).trans rfl
 have hce_2 : w5.cell? ⟨ge, 2, none⟩ = some (.bool e2) := (blk_cell S5.e 2).trans rfl
 have hce_3 : w5.cell? ⟨ge, 3, none⟩ = some (.bool e3) := (blk_cell S5.e 3).trans rfl
 have hce_4 : w5.cell? ⟨ge, 4, none⟩ = some (.bool e4) := (blk_cell S5.e 4).trans rfl
 have hce_5 : w5.cell? ⟨ge, 5, none⟩ = some (.bool e5) := (blk_cell S5.e 5).trans rfl
 have hce_6 : w5.cell? ⟨ge, 6, none⟩ = some (.bool e6) := (blk_cell S5.e 6).trans rfl
 have hce_7 : w5.cell? ⟨ge, 7, none⟩ = some (.bool e7) := (blk_cell S5.e 7).trans rfl
 have hce_8 : w5.cell? ⟨ge, 8, none⟩ = some (.int .i64 e8) := (blk_cell S5.e 8).trans rfl
 have hcl : w5.cell? ⟨gl, 0, none⟩ = some (.int .i64 L) := (blk_cell S5.l 0).trans rfl
 have hca : w5.cell? ⟨ga, 0, none⟩ = some (.int .i64 p) := (blk_cell S5.a 0).trans rfl
 go_cut [145] from 22 to 171 (fun v145 wc => ∃ b : Bool, v145 = .bool b ∧ (b = true ↔ (¬ ((a3 = 0 ∧ e1 = true) ∨ (a3 = 1 ∧ e2 = true) ∨ (a3 = 2 ∧ e3 = true)))) ∧ impl_translate.St w wc gr gl ga ge L p #[.bool true, .bool e1, .bool e2, .bool e3, .bool e4, .bool e5, .bool e6, .bool e7, .int .i64 e8])
 case first =>
  by_cases hac0 : a3 = 0
  ·subst hac0
   cases e1 with
   | true =>
    go_wp2
    go_meet
    case rel => exact ⟨_, rfl, by simp [], S5⟩
   | false =>
    go_wp2
    go_meet
    case rel => exact ⟨_, rfl, by simp [], S5⟩
  have hb0 : (a3 == 0) = false := beq_eq_false_iff_ne.mpr hac0
  by_cases hac1 : a3 = 1
  ·subst hac1
   cases e2 with
   | true =>
    go_wp2
    go_meet
    case rel => exact ⟨_, rfl, by simp [], S5⟩
   | false =>
    go_wp2
    go_meet
    case rel => exact ⟨_, rfl, by simp [], S5⟩
  have hb1 : (a3 == 1) = false := beq_eq_false_iff_ne.mpr hac1
  by_cases hac2 : a3 = 2
  ·subst hac2
   cases e3 with
   | true =>
    go_wp2
    go_meet
    case rel => exact ⟨_, rfl, by simp [], S5⟩
   | false =>
    go_wp2
    go_meet
    case rel => exact ⟨_, rfl, by simp [], S5⟩
  have hb2 : (a3 == 2) = false := beq_eq_false_iff_ne.mpr hac2
  go_wp2
  go_meet
  case rel => exact ⟨_, rfl, by simp [hac0, hac1, hac2], S5⟩
 clear hcl hca hce_0 hce_1 hce_2 hce_3 hce_4 hce_5 hce_6 hce_7 hce_8
 obtain ⟨b, rfl, hb, S6⟩ := hcut
 clear S5
 have hce_0 : wc.cell? ⟨ge, 0, none⟩ = some (.bool true) := (blk_cell S6.e 0).trans rfl
 have hce_1 : wc.cell? ⟨ge, 1, none⟩ = some (.bool e1) := (blk_cell S6.e 1).trans rfl
 have hce_2 : wc.cell? ⟨ge, 2, none⟩ = some (.bool e2) := (blk_cell S6.e 2).trans rfl
 have hce_3 : wc.cell? ⟨ge, 3, none⟩ = some (.bool e3) := (blk_cell S6.e 3).trans rfl
 have hce_4 : wc.cell? ⟨ge, 4, none⟩ = some (.bool e4) := (blk_cell S6.e 4).trans rfl
 have hce_5 : wc.cell? ⟨ge, 5, none⟩ = some (.bool e5) := (blk_cell S6.e 5).trans rfl
 have hce_6 : wc.cell? ⟨ge, 6, none⟩ = some (.bool e6) := (blk_cell S6.e 6).trans rfl
 have hce_7 : wc.cell? ⟨ge, 7, none⟩ = some (.bool e7) := (blk_cell S6.e 7).trans rfl
 have hce_8 : wc.cell? ⟨ge, 8, none⟩ = some (.int .i64 e8) := (blk_cell S6.e 8).trans rfl
 have hcl : wc.cell? ⟨gl, 0, none⟩ = some (.int .i64 L) := (blk_cell S6.l 0).trans rfl
 have hca : wc.cell? ⟨ga, 0, none⟩ = some (.int .i64 p) := (blk_cell S6.a 0).trans rfl
 by_cases hq : ¬ ((a3 = 0 ∧ e1 = true) ∨ (a3 = 1 ∧ e2 = true) ∨ (a3 = 2 ∧ e3 = true))
 ·obtain rfl := hb.mpr hq
  rw [if_pos hq] at H
  clear hq hb
  simp only [Option.some.injEq, Prod.mk.injEq] at H
  obtain ⟨rfl, rfl, rfl, rfl, rfl⟩ := H
  go_wp2_with (first | (go_at_call 90; (refine (impl_translate.clo 8 L p ⟨gl, 0, none⟩ ⟨ga, 0, none⟩ _ hcl hca).mono ?_); rintro e w7 ⟨rfl, hb⟩; have T7 := S6.below hb; have hcr_0 : w7.cell? ⟨gr, 0, none⟩ = some (.int .i64 0) := (blk_cell T7.r 0).trans rfl; have hfr_0 := blk_frozen T7.r 0; have hcr_1 : w7.cell? ⟨gr, 1, none⟩ = some (.int .i64 0) := (blk_cell T7.r 1).trans rfl; have hfr_1 := blk_frozen T7.r 1; have hcr_2 : w7.cell? ⟨gr, 2, none⟩ = some (.int .i64 0) := (blk_cell T7.r 2).trans rfl; have hfr_2 := blk_frozen T7.r 2; have hcr_3 : w7.cell? ⟨gr, 3, none⟩ = some (.int .i64 0) := (blk_cell T7.r 3).trans rfl; have hfr_3 := blk_frozen T7.r 3; have hcr_4 : w7.cell? ⟨gr, 4, none⟩ = some (.int .u64 0) := (blk_cell T7.r 4).trans rfl; have hfr_4 := blk_frozen T7.r 4))
  refine hQ.out _ _ (bodyPost_ret (results_cell_row rfl _ _ gr 36 #[.int .i64 8, .int .i64 L, .int .i64 p, .int .i64 0, .int .u64 0] (0, 0) _ rfl (impl_translate.put5 T7.r) Try.underlying36 rfl Z2_8) rfl ?_)
  exact ⟨rfl, impl_translate.far5 T7.B GEr.out⟩
 have hbf : b = false := Bool.eq_false_iff.mpr (fun h => hq (hb.mp h))
 subst hbf
 rw [if_neg hq] at H
 clear hb hq
 by_cases hac : a3 = 1
 ·have hb1 : (a3 == 1) = true := beq_iff_eq.mpr hac
  have hd1 : decide (a3 = 1) = true := decide_eq_true hac
  rw [hd1] at H
  clear hac
  replace H := Option.bind_eq_some_iff.mp H
  obtain ⟨⟨y, yb⟩, AP, H⟩ := H
  simp only [Option.some.injEq, Prod.mk.injEq] at H
  obtain ⟨rfl, rfl, rfl, rfl, rfl⟩ := H
  replace AP : impl_PutEntry.f k1 true e1 e2 e3 e4 true true e7 e8 = some (y, yb) := by simpa using AP
  have hfe_5 := blk_frozen S6.e 5
  have hfe_6 := blk_frozen S6.e 6
  go_wp2_with (first | ((with_reducible refine gate_callee (f := 14) rfl ?_); refine goesL_ (some 154) rfl rfl Try.func14 Z2_8 rfl #[.agg #[.bool true, .bool e1, .bool e2, .bool e3, .bool e4, .bool true, .bool true, .bool e7, .int .i64 e8]] rfl Z2_6 ?_; (with_reducible refine (impl_PutEntry.calls k1 true e1 e2 e3 e4 true true e7 e8 y yb _ AP).mono ?_); rintro e w8 ⟨rfl, hb⟩; have S8 := (impl_translate.St.put (cs' := #[.bool true, .bool e1, .bool e2, .bool e3, .bool e4, .bool true, .bool true, .bool e7, .int .i64 e8]) (impl_translate.St.put (cs' := #[.bool true, .bool e1, .bool e2, .bool e3, .bool e4, .bool true, .bool e6, .bool e7, .int .i64 e8]) S6 5 (.bool true) rfl (Ne.symm NBel) (Ne.symm NBea) (Ne.symm NBer) GEe) 6 (.bool true) rfl (Ne.symm NBel) (Ne.symm NBea) (Ne.symm NBer) GEe).below hb; refine ⟨_, rfl, ?_⟩))
  have S9 := S8.drew1
  have hq0 : (0 ≤ 8 + 5 * L) = True := eq_true (by omega)
  have hQ3 := impl_translate.pow8 hL
  obtain ⟨Q, hQ⟩ : ∃ Q : Int, (2 : Int) ^ (8 + 5 * L).toNat = Q := ⟨_, rfl⟩
  rw [hQ] at hQ3
  have hQ_ : (IntKind.u64.wrap (1 * 2 ^ min (8 + 5 * L).toNat 64)) = Q := by rw [Nat.min_eq_left (by omega), hQ]; exact (impl_translate.wrap8 hQ3).1
  have hQz : (8 + 5 * L) ≤ 64 → IntKind.u64.wrap (1 * 2 ^ (8 + 5 * L).toNat) = Q := fun _ => by rw [hQ]; exact (impl_translate.wrap8 hQ3).1
  have hQ1 := (impl_translate.wrap8 hQ3).2
  refine wp_region_still_tail 14 Z2_8 Z2_8 ?_
  change wpStill _ _ (World.drew _) (fun a' => wpList _ _ _ _ a' (World.drew _)) _ _
  generalize World.drew w8 = w9 at S9 ⊢
  have hcl9 : w9.cell? ⟨gl, 0, none⟩ = some (.int .i64 L) := (blk_cell S9.l 0).trans rfl
  have hca9 := (blk_cell S9.a 0)
  have hce9 : w9.cell? ⟨ge, 8, none⟩ = some (.int .i64 e8) := (blk_cell S9.e 8).trans rfl
  simp only [List.take_succ_cons, List.take_zero, List.drop_succ_cons, List.drop_zero]
  repeat still_step
  refine wpStill_nil ?_
  have hcr_0 : w9.cell? ⟨gr, 0, none⟩ = some (.int .i64 0) := (blk_cell S9.r 0).trans rfl
  have hcr_1 : w9.cell? ⟨gr, 1, none⟩ = some (.int .i64 0) := (blk_cell S9.r 1).trans rfl
  have hcr_2 : w9.cell? ⟨gr, 2, none⟩ = some (.int .i64 0) := (blk_cell S9.r 2).trans rfl
  have hcr_3 : w9.cell? ⟨gr, 3, none⟩ = some (.int .i64 0) := (blk_cell S9.r 3).trans rfl
  have hcr_4 : w9.cell? ⟨gr, 4, none⟩ = some (.int .u64 0) := (blk_cell S9.r 4).trans rfl
  have hfr_0 := blk_frozen S9.r 0
  have hfr_1 := blk_frozen S9.r 1
  have hfr_2 := blk_frozen S9.r 2
  have hfr_3 := blk_frozen S9.r 3
  have hfr_4 := blk_frozen S9.r 4
  go_wp2
  subst hQ
  refine hQ.out _ _ (bodyPost_ret (results_cell_row rfl _ _ gr 36 #[.int .i64 0, .int .i64 L, .int .i64 p, .int .i64 (wrap64 (wrap64 (e8 * 256) + wrap64 (Go.bits .and .u64 a2 (2 ^ (8 + 5 * L).toNat - 1)))), .int .u64 y] (0, 0) _ rfl (impl_translate.put5 S9.r) Try.underlying36 rfl Z2_8) rfl ?_)
  exact ⟨rfl, impl_translate.far5 S9.B GEr.out⟩
 have hb1 : (a3 == 1) = false := beq_eq_false_iff_ne.mpr hac
 have hd1 : decide (a3 = 1) = false := decide_eq_false hac
 rw [hd1] at H
 clear hac
 replace H := Option.bind_eq_some_iff.mp H
 obtain ⟨⟨y, yb⟩, AP, H⟩ := H
 simp only [Option.some.injEq, Prod.mk.injEq] at H
 obtain ⟨rfl, rfl, rfl, rfl, rfl⟩ := H
 replace AP : impl_PutEntry.f k1 true e1 e2 e3 e4 true e6 e7 e8 = some (y, yb) := by simpa using AP
 have hfe_5 := blk_frozen S6.e 5
 have hfe_6 := blk_frozen S6.e 6
 go_wp2_with (first | ((with_reducible refine gate_callee (f := 14) rfl ?_); refine goesL_ (some 154) rfl rfl Try.func14 Z2_8 rfl #[.agg #[.bool true, .bool e1, .bool e2, .bool e3, .bool e4, .bool true, .bool e6, .bool e7, .int .i64 e8]] rfl Z2_6 ?_; (with_reducible refine (impl_PutEntry.calls k1 true e1 e2 e3 e4 true e6 e7 e8 y yb _ AP).mono ?_); rintro e w8 ⟨rfl, hb⟩; have S8 := (impl_translate.St.put (cs' := #[.bool true, .bool e1, .bool e2, .bool e3, .bool e4, .bool true, .bool e6, .bool e7, .int .i64 e8]) S6 5 (.bool true) rfl (Ne.symm NBel) (Ne.symm NBea) (Ne.symm NBer) GEe).below hb; refine ⟨_, rfl, ?_⟩))
 have S9 := S8.drew1
 have hq0 : (0 ≤ 8 + 5 * L) = True := eq_true (by omega)
 have hQ3 := impl_translate.pow8 hL
 obtain ⟨Q, hQ⟩ : ∃ Q : Int, (2 : Int) ^ (8 + 5 * L).toNat = Q := ⟨_, rfl⟩
 rw [hQ] at hQ3
 have hQ_ : (IntKind.u64.wrap (1 * 2 ^ min (8 + 5 * L).toNat 64)) = Q := by rw [Nat.min_eq_left (by omega), hQ]; exact (impl_translate.wrap8 hQ3).1
 have hQz : (8 + 5 * L) ≤ 64 → IntKind.u64.wrap (1 * 2 ^ (8 + 5 * L).toNat) = Q := fun _ => by rw [hQ]; exact (impl_translate.wrap8 hQ3).1
 have hQ1 := (impl_translate.wrap8 hQ3).2
 refine wp_region_still_tail 14 Z2_8 Z2_8 ?_
 change wpStill _ _ (World.drew _) (fun a' => wpList _ _ _ _ a' (World.drew _)) _ _
 generalize World.drew w8 = w9 at S9 ⊢
 have hcl9 : w9.cell? ⟨gl, 0, none⟩ = some (.int .i64 L) := (blk_cell S9.l 0).trans rfl
 have hca9 := (blk_cell S9.a 0)
 have hce9 : w9.cell? ⟨ge, 8, none⟩ = some (.int .i64 e8) := (blk_cell S9.e 8).trans rfl
 simp only [List.take_succ_cons, List.take_zero, List.drop_succ_cons, List.drop_zero]
 repeat still_step
 refine wpStill_nil ?_
 have hcr_0 : w9.cell? ⟨gr, 0, none⟩ = some (.int .i64 0) := (blk_cell S9.r 0).trans rfl
 have hcr_1 : w9.cell? ⟨gr, 1, none⟩ = some (.int .i64 0) := (blk_cell S9.r 1).trans rfl
 have hcr_2 : w9.cell? ⟨gr, 2, none⟩ = some (.int .i64 0) := (blk_cell S9.r 2).trans rfl
 have hcr_3 : w9.cell? ⟨gr, 3, none⟩ = some (.int .i64 0) := (blk_cell S9.r 3).trans rfl
 have hcr_4 : w9.cell? ⟨gr, 4, none⟩ = some (.int .u64 0) := (blk_cell S9.r 4).trans rfl
 have hfr_0 := blk_frozen S9.r 0
 have hfr_1 := blk_frozen S9.r 1
 have hfr_2 := blk_frozen S9.r 2
 have hfr_3 := blk_frozen S9.r 3
 have hfr_4 := blk_frozen S9.r 4
 go_wp2
 subst hQ
 refine hQ.out _ _ (bodyPost_ret (results_cell_row rfl _ _ gr 36 #[.int .i64 0, .int .i64 L, .int .i64 p, .int .i64 (wrap64 (wrap64 (e8 * 256) + wrap64 (Go.bits .and .u64 a2 (2 ^ (8 + 5 * L).toNat - 1)))), .int .u64 y] (0, 0) _ rfl (impl_translate.put5 S9.r) Try.underlying36 rfl Z2_8) rfl ?_)
 exact ⟨rfl, impl_translate.far5 S9.B GEr.out⟩
set_option maxHeartbeats 8000000 in
set_option maxRecDepth 100000 in
theorem impl_translate.tail19 {k1 : Nat} {a2 a3 : Int} {a4 : Bool} {r1 r2 r3 r4 r5 : Int} {w w5 : World} {gr gl ga ge : Nat} {L p x e8 : Int} {e1 e2 e3 e4 e5 e6 e7 : Bool} {s0 s1 s5 s6 s7 s8 s9 s11 s16 s19 s20 s21 s22 s23 s24 s25 s26 s27 s28 s29 s30 s31 s32 s33 s34 s35 s36 s37 s38 s39 s40 s41 s42 s43 s44 s45 s46 s47 s48 s49 s50 s51 s52 s53 s54 s55 s56 s57 s58 s59 s60 s61 s62 s63 s64 s65 s66 s67 s68 s69 s70 s71 s72 s73 s74 s75 s76 s77 s78 s79 s80 s81 s82 s83 s84 s85 s86 s87 s88 s89 s90 s91 s92 s93 s94 s95 s96 s97 s98 s99 s100 s101 s102 s103 s104 s105 s106 s107 s108 s109 s110 s111 s112 s113 s114 s115 s116 s117 s118 s119 s120 s121 s122 s123 s124 s125 s126 s127 s128 s129 s130 s131 s132 s133 s134 s135 s136 s137 s138 s139 s140 s141 s142 s143 s144 s145 s146 s147 s148 s149 s150 s151 s152 s153 s154 s155 s156 s157 s158 s159 s160 s161 s162 s163 s164 s165 s166 s167 s168 s169 s170 s171 : Value} {Kc Kd K2 K3 : Act → World → Prop} {Q1 : Exit → Act → World → Prop}
  (GEr : Aside0 (w.heap.size ≤ gr)) (GEe : w.heap.size ≤ ge) (NBel : ge ≠ gl) (NBer : ge ≠ gr) (NBea : ge ≠ ga) (hL : 0 ≤ L ∧ L ≤ 2)
  (H : (if Int.tmod e8 (2 ^ (5 * L).toNat) ≠ 0 then some (6, L, p, 0, 0) else if a4 = true ∧ e4 = false then some (7, L, p, 0, 0) else (if ¬ ((a3 = 0 ∧ e1 = true) ∨ (a3 = 1 ∧ e2 = true) ∨ (a3 = 2 ∧ e3 = true)) then some (8, L, p, 0, 0) else (impl_PutEntry.f k1 true e1 e2 e3 e4 true (e6 || decide (a3 = 1)) e7 e8).bind fun y => some (0, L, p, wrap64 (wrap64 (e8 * 256) + wrap64 (Go.bits .and .u64 a2 (2 ^ (8 + 5 * L).toNat - 1))), y.1))) = some (r1, r2, r3, r4, r5))
  (S5 : impl_translate.St w w5 gr gl ga ge L p #[.bool true, .bool e1, .bool e2, .bool e3, .bool e4, .bool e5, .bool e6, .bool e7, .int .i64 e8])
  (hQ : Aside0 (∀ a w2, (bodyPost Try.prog Try.f54 fun e w1 => e = .returned (.agg #[.int .i64 r1, .int .i64 r2, .int .i64 r3, .int .i64 r4, .int .u64 r5]) ∧ Below w.heap.size w w1) Exit.ret a w2 → Q1 Exit.ret a w2))
  (hc : ∀ a w2, Code.wp Try.prog (impl_translate.path [true, true, true, false, false, false, false, true, true, true, true, true, true, true, true, true, false, true] (Try.f54.body.getD .skip)) (Exit.then Kd (Exit.inBlock 1 (Exit.then K2 (Exit.then K3 (Exit.inBlock 0 Q1))))) a w2 → Kc a w2)
  (hd : ∀ a w2, Code.wp Try.prog (impl_translate.path [true, true, true, false, false, false, false, true, true, true, true, true, true, true, true, true, true] (Try.f54.body.getD .skip)) (Exit.inBlock 1 (Exit.then K2 (Exit.then K3 (Exit.inBlock 0 Q1)))) a w2 → Kd a w2)
  : Code.wp Try.prog (impl_translate.path [true, true, true, false, false, false, false, true, true, true, true, true, true, true, true, true, false, false] (Try.f54.body.getD .skip)) (Exit.then Kc (Exit.then Kd (Exit.inBlock 1 (Exit.then K2 (Exit.then K3 (Exit.inBlock 0 Q1)))))) { tmps := (List.toArray (s0 :: s1 :: (.int .u64 a2) :: (.int .i64 a3) :: (.bool a4) :: s5 :: s6 :: s7 :: s8 :: s9 :: (.pointer (some ⟨gr, 0, none⟩)) :: s11 :: (.pointer (some ⟨gl, 0, none⟩)) :: (.int .i64 (8 + 5 * L)) :: (.pointer (some ⟨ga, 0, none⟩)) :: (.int .u64 x) :: s16 :: (.pointer (some ⟨ge, 0, none⟩)) :: (.func (Fn.func 90) #[] #[.pointer (some ⟨gl, 0, none⟩), .pointer (some ⟨ga, 0, none⟩)]) :: s19 :: s20 :: s21 :: s22 :: s23 :: s24 :: s25 :: s26 :: s27 :: s28 :: s29 :: s30 :: s31 :: s32 :: s33 :: s34 :: s35 :: s36 :: s37 :: s38 :: s39 :: s40 :: s41 :: s42 :: s43 :: s44 :: s45 :: s46 :: s47 :: s48 :: s49 :: s50 :: s51 :: s52 :: s53 :: s54 :: s55 :: s56 :: s57 :: s58 :: s59 :: s60 :: s61 :: s62 :: s63 :: s64 :: s65 :: s66 :: s67 :: s68 :: s69 :: s70 :: s71 :: s72 :: s73 :: s74 :: s75 :: s76 :: s77 :: s78 :: s79 :: s80 :: s81 :: s82 :: s83 :: s84 :: s85 :: s86 :: s87 :: s88 :: s89 :: s90 :: s91 :: s92 :: s93 :: s94 :: s95 :: s96 :: s97 :: s98 :: s99 :: s100 :: s101 :: s102 :: s103 :: s104 :: s105 :: s106 :: s107 :: s108 :: s109 :: s110 :: s111 :: s112 :: s113 :: s114 :: s115 :: s116 :: s117 :: s118 :: s119 :: s120 :: s121 :: s122 :: s123 :: s124 :: s125 :: s126 :: s127 :: s128 :: s129 :: s130 :: s131 :: s132 :: s133 :: s134 :: s135 :: s136 :: s137 :: s138 :: s139 :: s140 :: s141 :: s142 :: s143 :: s144 :: s145 :: s146 :: s147 :: s148 :: s149 :: s150 :: s151 :: s152 :: s153 :: s154 :: s155 :: s156 :: s157 :: s158 :: s159 :: s160 :: s161 :: s162 :: s163 :: s164 :: s165 :: s166 :: s167 :: s168 :: s169 :: s170 :: s171 :: [])), defers := [] } w5 := by
 have hu36 := Try.underlying36
 have hu27 := Try.underlying27
 have hs0 : wrap64 (5 * L) = 5 * L := by unfold wrap64; omega
 replace hc := fun a w2 (h : Code.wp Try.prog (Code.cond _ _ _) _ a w2) => hc a w2 h
 replace hd := fun a w2 (h : Code.wp Try.prog (Code.seq _ _) _ a w2) => hd a w2 h
 change Code.wp _ (Code.region _ _ _) _ _ _
 have S7 := S5
 clear S5
 have hce_0 : w5.cell? ⟨ge, 0, none⟩ = some (.bool true) := (blk_cell S7.e 0).trans rfl
 have hce_1 : w5.cell? ⟨ge, 1, none⟩ = some (.bool e1) := (blk_cell S7.e 1).trans rfl
 have hce_2 : w5.cell? ⟨ge, 2, none⟩ = some (.bool e2) := (blk_cell S7.e 2).trans rfl
 have hce_3 : w5.cell? ⟨ge, 3, none⟩ = some (.bool e3) := (blk_cell S7.e 3).trans rfl
 have hce_4 : w5.cell? ⟨ge, 4, none⟩ = some (.bool e4) := (blk_cell S7.e 4).trans rfl
 have hce_5 : w5.cell? ⟨ge, 5, none⟩ = some (.bool e5) := (blk_cell S7.e 5).trans rfl
 have hce_6 : w5.cell? ⟨ge, 6, none⟩ = some (.bool e6) := (blk_cell S7.e 6).trans rfl
 have hce_7 : w5.cell? ⟨ge, 7, none⟩ = some (.bool e7) := (blk_cell S7.e 7).trans rfl
 have hce_8 : w5.cell? ⟨ge, 8, none⟩ = some (.int .i64 e8) := (blk_cell S7.e 8).trans rfl
 have hcl : w5.cell? ⟨gl, 0, none⟩ = some (.int .i64 L) := (blk_cell S7.l 0).trans rfl
 have hca : w5.cell? ⟨ga, 0, none⟩ = some (.int .i64 p) := (blk_cell S7.a 0).trans rfl
 have hp0 : (0 ≤ 5 * L) = True := eq_true (by omega)
 have hp1 : (5 * L < 0) = False := eq_false (by omega)
 have hM3 := impl_translate.pow3 hL
 obtain ⟨M, hM⟩ : ∃ M : Int, (2 : Int) ^ (5 * L).toNat = M := ⟨_, rfl⟩
 rw [hM] at hM3 H
 have hM_ : (IntKind.i64.wrap (1 * 2 ^ min (5 * L).toNat 64)) = M := by rw [Nat.min_eq_left (by omega), hM]; exact impl_translate.wrap3 hM3
 have hMz : (5 * L) ≤ 64 → IntKind.i64.wrap (1 * 2 ^ (5 * L).toNat) = M := fun _ => by rw [hM]; exact impl_translate.wrap3 hM3
 have hN0 : (M = 0) = False := eq_false (by omega)
 have hN1 : (M == 0) = false := beq_eq_false_iff_ne.mpr (by omega)
 go_quiet (first | fail)
 have S6 := S7.drew nq
 generalize World.drewN w5 nq = w6 at S6 ⊢
 clear hcl hca hce_0 hce_1 hce_2 hce_3 hce_4 hce_5 hce_6 hce_7 hce_8
 clear S7
 have hce_0 : w6.cell? ⟨ge, 0, none⟩ = some (.bool true) := (blk_cell S6.e 0).trans rfl
 have hce_1 : w6.cell? ⟨ge, 1, none⟩ = some (.bool e1) := (blk_cell S6.e 1).trans rfl
 have hce_2 : w6.cell? ⟨ge, 2, none⟩ = some (.bool e2) := (blk_cell S6.e 2).trans rfl
 have hce_3 : w6.cell? ⟨ge, 3, none⟩ = some (.bool e3) := (blk_cell S6.e 3).trans rfl
 have hce_4 : w6.cell? ⟨ge, 4, none⟩ = some (.bool e4) := (blk_cell S6.e 4).trans rfl
 have hce_5 : w6.cell? ⟨ge, 5, none⟩ = some (.bool e5) := (blk_cell S6.e 5).trans rfl
 have hce_6 : w6.cell? ⟨ge, 6, none⟩ = some (.bool e6) := (blk_cell S6.e 6).trans rfl
 have hce_7 : w6.cell? ⟨ge, 7, none⟩ = some (.bool e7) := (blk_cell S6.e 7).trans rfl
 have hce_8 : w6.cell? ⟨ge, 8, none⟩ = some (.int .i64 e8) := (blk_cell S6.e 8).trans rfl
 have hcl : w6.cell? ⟨gl, 0, none⟩ = some (.int .i64 L) := (blk_cell S6.l 0).trans rfl
 have hca : w6.cell? ⟨ga, 0, none⟩ = some (.int .i64 p) := (blk_cell S6.a 0).trans rfl
 by_cases ha : Int.tmod e8 M = 0
 ·have hab1 : (Int.tmod e8 M != 0) = false := bne_eq_false_iff_eq.mpr ha
  rw [if_neg (by simp [ha])] at H
  go_upto_region 21 with (first | fail)
  go_cut [120] from 22 to 171 (fun v120 wc => ∃ b : Bool, v120 = .bool b ∧ (b = true ↔ (a4 = true ∧ e4 = false)) ∧ impl_translate.St w wc gr gl ga ge L p #[.bool true, .bool e1, .bool e2, .bool e3, .bool e4, .bool e5, .bool e6, .bool e7, .int .i64 e8])
  case first =>
   cases a4 with
   | false =>
    go_wp2
    go_meet
    case rel => exact ⟨_, rfl, by simp [], S6⟩
   | true =>
    cases e4 with
    | true =>
     go_wp2
     go_meet
     case rel => exact ⟨_, rfl, by simp [], S6⟩
    | false =>
     go_wp2
     go_meet
     case rel => exact ⟨_, rfl, by simp [], S6⟩
  clear hcl hca hce_0 hce_1 hce_2 hce_3 hce_4 hce_5 hce_6 hce_7 hce_8
  obtain ⟨b, rfl, hb, S7⟩ := hcut
  clear S6
  have hce_0 : wc.cell? ⟨ge, 0, none⟩ = some (.bool true) := (blk_cell S7.e 0).trans rfl
  have hce_1 : wc.cell? ⟨ge, 1, none⟩ = some (.bool e1) := (blk_cell S7.e 1).trans rfl
  have hce_2 : wc.cell? ⟨ge, 2, none⟩ = some (.bool e2) := (blk_cell S7.e 2).trans rfl
  have hce_3 : wc.cell? ⟨ge, 3, none⟩ = some (.bool e3) := (blk_cell S7.e 3).trans rfl
  have hce_4 : wc.cell? ⟨ge, 4, none⟩ = some (.bool e4) := (blk_cell S7.e 4).trans rfl
  have hce_5 : wc.cell? ⟨ge, 5, none⟩ = some (.bool e5) := (blk_cell S7.e 5).trans rfl
  have hce_6 : wc.cell? ⟨ge, 6, none⟩ = some (.bool e6) := (blk_cell S7.e 6).trans rfl
  have hce_7 : wc.cell? ⟨ge, 7, none⟩ = some (.bool e7) := (blk_cell S7.e 7).trans rfl
  have hce_8 : wc.cell? ⟨ge, 8, none⟩ = some (.int .i64 e8) := (blk_cell S7.e 8).trans rfl
  have hcl : wc.cell? ⟨gl, 0, none⟩ = some (.int .i64 L) := (blk_cell S7.l 0).trans rfl
  have hca : wc.cell? ⟨ga, 0, none⟩ = some (.int .i64 p) := (blk_cell S7.a 0).trans rfl
  by_cases hq : a4 = true ∧ e4 = false
  ·obtain rfl := hb.mpr hq
   rw [if_pos hq] at H
   clear hq hb
   simp only [Option.some.injEq, Prod.mk.injEq] at H
   obtain ⟨rfl, rfl, rfl, rfl, rfl⟩ := H
   go_wp2_with (first | (go_at_call 90; (refine (impl_translate.clo 7 L p ⟨gl, 0, none⟩ ⟨ga, 0, none⟩ _ hcl hca).mono ?_); rintro e w7 ⟨rfl, hb⟩; have T7 := S7.below hb; have hcr_0 : w7.cell? ⟨gr, 0, none⟩ = some (.int .i64 0) := (blk_cell T7.r 0).trans rfl; have hfr_0 := blk_frozen T7.r 0; have hcr_1 : w7.cell? ⟨gr, 1, none⟩ = some (.int .i64 0) := (blk_cell T7.r 1).trans rfl; have hfr_1 := blk_frozen T7.r 1; have hcr_2 : w7.cell? ⟨gr, 2, none⟩ = some (.int .i64 0) := (blk_cell T7.r 2).trans rfl; have hfr_2 := blk_frozen T7.r 2; have hcr_3 : w7.cell? ⟨gr, 3, none⟩ = some (.int .i64 0) := (blk_cell T7.r 3).trans rfl; have hfr_3 := blk_frozen T7.r 3; have hcr_4 : w7.cell? ⟨gr, 4, none⟩ = some (.int .u64 0) := (blk_cell T7.r 4).trans rfl; have hfr_4 := blk_frozen T7.r 4))
   refine hQ.out _ _ (bodyPost_ret (results_cell_row rfl _ _ gr 36 #[.int .i64 7, .int .i64 L, .int .i64 p, .int .i64 0, .int .u64 0] (0, 0) _ rfl (impl_translate.put5 T7.r) Try.underlying36 rfl Z2_8) rfl ?_)
   exact ⟨rfl, impl_translate.far5 T7.B GEr.out⟩
  have hbf : b = false := Bool.eq_false_iff.mpr (fun h => hq (hb.mp h))
  subst hbf
  rw [if_neg hq] at H
  clear hb hq
  go_upto_region 23 with (first | fail)
  exact impl_translate.tail23 GEr GEe NBel NBer NBea hL H S7 hQ (by assumption) (by assumption)
 have hab1 : (Int.tmod e8 M != 0) = true := bne_iff_ne.mpr ha
 rw [if_pos (by simp [ha])] at H
 simp only [Option.some.injEq, Prod.mk.injEq] at H
 obtain ⟨rfl, rfl, rfl, rfl, rfl⟩ := H
 go_wp2_with (first | (go_at_call 90; (refine (impl_translate.clo 6 L p ⟨gl, 0, none⟩ ⟨ga, 0, none⟩ _ hcl hca).mono ?_); rintro e w7 ⟨rfl, hb⟩; have T7 := S6.below hb; have hcr_0 : w7.cell? ⟨gr, 0, none⟩ = some (.int .i64 0) := (blk_cell T7.r 0).trans rfl; have hfr_0 := blk_frozen T7.r 0; have hcr_1 : w7.cell? ⟨gr, 1, none⟩ = some (.int .i64 0) := (blk_cell T7.r 1).trans rfl; have hfr_1 := blk_frozen T7.r 1; have hcr_2 : w7.cell? ⟨gr, 2, none⟩ = some (.int .i64 0) := (blk_cell T7.r 2).trans rfl; have hfr_2 := blk_frozen T7.r 2; have hcr_3 : w7.cell? ⟨gr, 3, none⟩ = some (.int .i64 0) := (blk_cell T7.r 3).trans rfl; have hfr_3 := blk_frozen T7.r 3; have hcr_4 : w7.cell? ⟨gr, 4, none⟩ = some (.int .u64 0) := (blk_cell T7.r 4).trans rfl; have hfr_4 := blk_frozen T7.r 4))
 refine hQ.out _ _ (bodyPost_ret (results_cell_row rfl _ _ gr 36 #[.int .i64 6, .int .i64 L, .int .i64 p, .int .i64 0, .int .u64 0] (0, 0) _ rfl (impl_translate.put5 T7.r) Try.underlying36 rfl Z2_8) rfl ?_)
 exact ⟨rfl, impl_translate.far5 T7.B GEr.out⟩
set_option maxHeartbeats 8000000 in
set_option maxRecDepth 100000 in
theorem impl_translate.tail15 {k1 : Nat} {l0 : List Int} {a2 a3 : Int} {a4 : Bool} {r1 r2 r3 r4 r5 : Int} {w w5 : World} {gr gl ga ge : Nat} {L p x e8 : Int} {e1 e2 e3 e4 e5 e6 e7 : Bool} {s0 s1 s5 s6 s7 s8 s9 s11 s16 s19 s20 s21 s22 s23 s24 s25 s26 s27 s28 s29 s30 s31 s32 s33 s34 s35 s36 s37 s38 s39 s40 s41 s42 s43 s44 s45 s46 s47 s48 s49 s50 s51 s52 s53 s54 s55 s56 s57 s58 s59 s60 s61 s62 s63 s64 s65 s66 s67 s68 s69 s70 s71 s72 s73 s74 s75 s76 s77 s78 s79 s80 s81 s82 s83 s84 s85 s86 s87 s88 s89 s90 s91 s92 s93 s94 s95 s96 s97 s98 s99 s100 s101 s102 s103 s104 s105 s106 s107 s108 s109 s110 s111 s112 s113 s114 s115 s116 s117 s118 s119 s120 s121 s122 s123 s124 s125 s126 s127 s128 s129 s130 s131 s132 s133 s134 s135 s136 s137 s138 s139 s140 s141 s142 s143 s144 s145 s146 s147 s148 s149 s150 s151 s152 s153 s154 s155 s156 s157 s158 s159 s160 s161 s162 s163 s164 s165 s166 s167 s168 s169 s170 s171 : Value} {Kc Kd K2 K3 : Act → World → Prop} {Q1 : Exit → Act → World → Prop}
  (GEr : Aside0 (w.heap.size ≤ gr)) (GEe : w.heap.size ≤ ge) (NBel : ge ≠ gl) (NBer : ge ≠ gr) (NBea : ge ≠ ga) (hL : 0 ≤ L ∧ L ≤ 2)
  (H : (if e1 = false ∧ e2 = false ∧ e3 = false then (if e4 = true ∨ e5 = true ∨ e6 = true ∨ L = 0 then some (5, L, p, 0, 0) else impl_translate.l0 k1 l0 e8 (L - 1) a2 a3 a4) else (if Int.tmod e8 (2 ^ (5 * L).toNat) ≠ 0 then some (6, L, p, 0, 0) else if a4 = true ∧ e4 = false then some (7, L, p, 0, 0) else (if ¬ ((a3 = 0 ∧ e1 = true) ∨ (a3 = 1 ∧ e2 = true) ∨ (a3 = 2 ∧ e3 = true)) then some (8, L, p, 0, 0) else (impl_PutEntry.f k1 true e1 e2 e3 e4 true (e6 || decide (a3 = 1)) e7 e8).bind fun y => some (0, L, p, wrap64 (wrap64 (e8 * 256) + wrap64 (Go.bits .and .u64 a2 (2 ^ (8 + 5 * L).toNat - 1))), y.1)))) = some (r1, r2, r3, r4, r5))
  (S5 : impl_translate.St w w5 gr gl ga ge L p #[.bool true, .bool e1, .bool e2, .bool e3, .bool e4, .bool e5, .bool e6, .bool e7, .int .i64 e8])
  (hQ : Aside0 (∀ a w2, (bodyPost Try.prog Try.f54 fun e w1 => e = .returned (.agg #[.int .i64 r1, .int .i64 r2, .int .i64 r3, .int .i64 r4, .int .u64 r5]) ∧ Below w.heap.size w w1) Exit.ret a w2 → Q1 Exit.ret a w2))
  (hc : ∀ a w2, Code.wp Try.prog (impl_translate.path [true, true, true, false, false, false, false, true, true, true, true, true, true, true, true, false, true] (Try.f54.body.getD .skip)) (Exit.then Kd (Exit.inBlock 1 (Exit.then K2 (Exit.then K3 (Exit.inBlock 0 Q1))))) a w2 → Kc a w2)
  (hd : ∀ a w2, Code.wp Try.prog (impl_translate.path [true, true, true, false, false, false, false, true, true, true, true, true, true, true, true, true] (Try.f54.body.getD .skip)) (Exit.inBlock 1 (Exit.then K2 (Exit.then K3 (Exit.inBlock 0 Q1)))) a w2 → Kd a w2)
  (hE : Aside0 (impl_translate.l0 k1 l0 e8 (L - 1) a2 a3 a4 = some (r1, r2, r3, r4, r5) → ¬ L = 0 → ∀ {u13 u14 u15 u16 u17 u18 u19 u20 u22 u23 u24 u25 u26 u27 u28 u29 u30 u31 u32 u33 u34 u35 u36 u37 u38 u39 u40 u41 u42 u43 u44 u45 u46 u47 u48 u49 u50 u51 u52 u53 u54 u55 u56 u57 u58 u59 u60 u61 u62 u63 u64 u65 u66 u67 u68 u69 u70 u71 u72 u73 u74 u75 u76 u77 u78 u79 u80 u81 u82 u83 u84 u85 u86 u87 u88 u89 u90 u91 u92 u93 u94 u95 u96 u97 u98 u99 u100 u101 u102 u103 u104 u105 u106 u107 u108 u109 u110 u111 u112 u113 u114 u115 u116 u117 u118 u119 u120 u121 u122 u123 u124 u125 u126 u127 u128 u129 u130 u131 u132 u133 u134 u135 u136 u137 u138 u139 u140 u141 u142 u143 u144 u145 u146 u147 u148 u149 u150 u151 u152 u153 u154 u155 u156 u157 u158 u159 u160 u161 u162 u163 u164 u165 u166 u167 u168 u169 u170 u171 : Value} {wc : World}, impl_translate.St w wc gr gl ga ge L p #[.bool true, .bool e1, .bool e2, .bool e3, .bool e4, .bool e5, .bool e6, .bool e7, .int .i64 e8] → K2 { tmps := (List.toArray (s0 :: s1 :: (.int .u64 a2) :: (.int .i64 a3) :: (.bool a4) :: s5 :: s6 :: s7 :: s8 :: s9 :: (.pointer (some ⟨gr, 0, none⟩)) :: (.int .i64 e8) :: (.pointer (some ⟨gl, 0, none⟩)) :: u13 :: u14 :: u15 :: u16 :: u17 :: u18 :: u19 :: u20 :: s21 :: u22 :: u23 :: u24 :: u25 :: u26 :: u27 :: u28 :: u29 :: u30 :: u31 :: u32 :: u33 :: u34 :: u35 :: u36 :: u37 :: u38 :: u39 :: u40 :: u41 :: u42 :: u43 :: u44 :: u45 :: u46 :: u47 :: u48 :: u49 :: u50 :: u51 :: u52 :: u53 :: u54 :: u55 :: u56 :: u57 :: u58 :: u59 :: u60 :: u61 :: u62 :: u63 :: u64 :: u65 :: u66 :: u67 :: u68 :: u69 :: u70 :: u71 :: u72 :: u73 :: u74 :: u75 :: u76 :: u77 :: u78 :: u79 :: u80 :: u81 :: u82 :: u83 :: u84 :: u85 :: u86 :: u87 :: u88 :: u89 :: u90 :: u91 :: u92 :: u93 :: u94 :: u95 :: u96 :: u97 :: u98 :: u99 :: u100 :: u101 :: u102 :: u103 :: u104 :: u105 :: u106 :: u107 :: u108 :: u109 :: u110 :: u111 :: u112 :: u113 :: u114 :: u115 :: u116 :: u117 :: u118 :: u119 :: u120 :: u121 :: u122 :: u123 :: u124 :: u125 :: u126 :: u127 :: u128 :: u129 :: u130 :: u131 :: u132 :: u133 :: u134 :: u135 :: u136 :: u137 :: u138 :: u139 :: u140 :: u141 :: u142 :: u143 :: u144 :: u145 :: u146 :: u147 :: u148 :: u149 :: u150 :: u151 :: u152 :: u153 :: u154 :: u155 :: u156 :: u157 :: u158 :: u159 :: u160 :: u161 :: u162 :: u163 :: u164 :: u165 :: u166 :: u167 :: u168 :: u169 :: u170 :: u171 :: [])), defers := [] } wc))
  : Code.wp Try.prog (impl_translate.path [true, true, true, false, false, false, false, true, true, true, true, true, true, true, true, false, false] (Try.f54.body.getD .skip)) (Exit.then Kc (Exit.then Kd (Exit.inBlock 1 (Exit.then K2 (Exit.then K3 (Exit.inBlock 0 Q1)))))) { tmps := (List.toArray (s0 :: s1 :: (.int .u64 a2) :: (.int .i64 a3) :: (.bool a4) :: s5 :: s6 :: s7 :: s8 :: s9 :: (.pointer (some ⟨gr, 0, none⟩)) :: s11 :: (.pointer (some ⟨gl, 0, none⟩)) :: (.int .i64 (8 + 5 * L)) :: (.pointer (some ⟨ga, 0, none⟩)) :: (.int .u64 x) :: s16 :: (.pointer (some ⟨ge, 0, none⟩)) :: (.func (Fn.func 90) #[] #[.pointer (some ⟨gl, 0, none⟩), .pointer (some ⟨ga, 0, none⟩)]) :: s19 :: s20 :: s21 :: s22 :: s23 :: s24 :: s25 :: s26 :: s27 :: s28 :: s29 :: s30 :: s31 :: s32 :: s33 :: s34 :: s35 :: s36 :: s37 :: s38 :: s39 :: s40 :: s41 :: s42 :: s43 :: s44 :: s45 :: s46 :: s47 :: s48 :: s49 :: s50 :: s51 :: s52 :: s53 :: s54 :: s55 :: s56 :: s57 :: s58 :: s59 :: s60 :: s61 :: s62 :: s63 :: s64 :: s65 :: s66 :: s67 :: s68 :: s69 :: s70 :: s71 :: s72 :: s73 :: s74 :: s75 :: s76 :: s77 :: s78 :: s79 :: s80 :: s81 :: s82 :: s83 :: s84 :: s85 :: s86 :: s87 :: s88 :: s89 :: s90 :: s91 :: s92 :: s93 :: s94 :: s95 :: s96 :: s97 :: s98 :: s99 :: s100 :: s101 :: s102 :: s103 :: s104 :: s105 :: s106 :: s107 :: s108 :: s109 :: s110 :: s111 :: s112 :: s113 :: s114 :: s115 :: s116 :: s117 :: s118 :: s119 :: s120 :: s121 :: s122 :: s123 :: s124 :: s125 :: s126 :: s127 :: s128 :: s129 :: s130 :: s131 :: s132 :: s133 :: s134 :: s135 :: s136 :: s137 :: s138 :: s139 :: s140 :: s141 :: s142 :: s143 :: s144 :: s145 :: s146 :: s147 :: s148 :: s149 :: s150 :: s151 :: s152 :: s153 :: s154 :: s155 :: s156 :: s157 :: s158 :: s159 :: s160 :: s161 :: s162 :: s163 :: s164 :: s165 :: s166 :: s167 :: s168 :: s169 :: s170 :: s171 :: [])), defers := [] } w5 := by
 have hu36 := Try.underlying36
 have hu27 := Try.underlying27
 have hs0 : wrap64 (5 * L) = 5 * L := by unfold wrap64; omega
 replace hc := fun a w2 (h : Code.wp Try.prog (Code.cond _ _ _) _ a w2) => hc a w2 h
 replace hd := fun a w2 (h : Code.wp Try.prog (Code.seq _ _) _ a w2) => hd a w2 h
 change Code.wp _ (Code.region _ _ _) _ _ _
 have hce_0 : w5.cell? ⟨ge, 0, none⟩ = some (.bool true) := (blk_cell S5.e 0).trans rfl
 have hce_1 : w5.cell? ⟨ge, 1, none⟩ = some (.bool e1) := (blk_cell S5.e 1).trans rfl
 have hce_2 : w5.cell? ⟨ge, 2, none⟩ = some (.bool e2) := (blk_cell S5.e 2).trans rfl
 have hce_3 : w5.cell? ⟨ge, 3, none⟩ = some (.bool e3) := (blk_cell S5.e 3).trans rfl
 have hce_4 : w5.cell? ⟨ge, 4, none⟩ = some (.bool e4) := (blk_cell S5.e 4).trans rfl
 have hce_5 : w5.cell? ⟨ge, 5, none⟩ = some (.bool e5) := (blk_cell S5.e 5).trans rfl
 have hce_6 : w5.cell? ⟨ge, 6, none⟩ = some (.bool e6) := (blk_cell S5.e 6).trans rfl
 have hce_7 : w5.cell? ⟨ge, 7, none⟩ = some (.bool e7) := (blk_cell S5.e 7).trans rfl
 have hce_8 : w5.cell? ⟨ge, 8, none⟩ = some (.int .i64 e8) := (blk_cell S5.e 8).trans rfl
 have hcl : w5.cell? ⟨gl, 0, none⟩ = some (.int .i64 L) := (blk_cell S5.l 0).trans rfl
 have hca : w5.cell? ⟨ga, 0, none⟩ = some (.int .i64 p) := (blk_cell S5.a 0).trans rfl
 go_cut [87] from 22 to 171 (fun v87 wc => ∃ b : Bool, v87 = .bool b ∧ (b = true ↔ (e1 = false ∧ e2 = false ∧ e3 = false)) ∧ impl_translate.St w wc gr gl ga ge L p #[.bool true, .bool e1, .bool e2, .bool e3, .bool e4, .bool e5, .bool e6, .bool e7, .int .i64 e8])
 case first =>
  cases e1 with
  | true =>
   go_wp2
   go_meet
   case rel => exact ⟨_, rfl, by simp [], S5⟩
  | false =>
   cases e2 with
   | true =>
    go_wp2
    go_meet
    case rel => exact ⟨_, rfl, by simp [], S5⟩
   | false =>
    cases e3 with
    | true =>
     go_wp2
     go_meet
     case rel => exact ⟨_, rfl, by simp [], S5⟩
    | false =>
     go_wp2
     go_meet
     case rel => exact ⟨_, rfl, by simp [], S5⟩
 clear hcl hca hce_0 hce_1 hce_2 hce_3 hce_4 hce_5 hce_6 hce_7 hce_8
 obtain ⟨b, rfl, hb, S7⟩ := hcut
 clear S5
 have hce_0 : wc.cell? ⟨ge, 0, none⟩ = some (.bool true) := (blk_cell S7.e 0).trans rfl
 have hce_1 : wc.cell? ⟨ge, 1, none⟩ = some (.bool e1) := (blk_cell S7.e 1).trans rfl
 have hce_2 : wc.cell? ⟨ge, 2, none⟩ = some (.bool e2) := (blk_cell S7.e 2).trans rfl
 have hce_3 : wc.cell? ⟨ge, 3, none⟩ = some (.bool e3) := (blk_cell S7.e 3).trans rfl
 have hce_4 : wc.cell? ⟨ge, 4, none⟩ = some (.bool e4) := (blk_cell S7.e 4).trans rfl
 have hce_5 : wc.cell? ⟨ge, 5, none⟩ = some (.bool e5) := (blk_cell S7.e 5).trans rfl
 have hce_6 : wc.cell? ⟨ge, 6, none⟩ = some (.bool e6) := (blk_cell S7.e 6).trans rfl
 have hce_7 : wc.cell? ⟨ge, 7, none⟩ = some (.bool e7) := (blk_cell S7.e 7).trans rfl
 have hce_8 : wc.cell? ⟨ge, 8, none⟩ = some (.int .i64 e8) := (blk_cell S7.e 8).trans rfl
 have hcl : wc.cell? ⟨gl, 0, none⟩ = some (.int .i64 L) := (blk_cell S7.l 0).trans rfl
 have hca : wc.cell? ⟨ga, 0, none⟩ = some (.int .i64 p) := (blk_cell S7.a 0).trans rfl
 by_cases hq : e1 = false ∧ e2 = false ∧ e3 = false
 ·obtain rfl := hb.mpr hq
  rw [if_pos hq] at H
  clear hq hb
  go_upto_region 16 with (first | fail)
  go_cut [101] from 22 to 171 (fun v101 wc => ∃ b : Bool, v101 = .bool b ∧ (b = true ↔ (e4 = true ∨ e5 = true ∨ e6 = true ∨ L = 0)) ∧ impl_translate.St w wc gr gl ga ge L p #[.bool true, .bool e1, .bool e2, .bool e3, .bool e4, .bool e5, .bool e6, .bool e7, .int .i64 e8])
  case first =>
   cases e4 with
   | true =>
    go_wp2
    go_meet
    case rel => exact ⟨_, rfl, by simp [], S7⟩
   | false =>
    cases e5 with
    | true =>
     go_wp2
     go_meet
     case rel => exact ⟨_, rfl, by simp [], S7⟩
    | false =>
     cases e6 with
     | true =>
      go_wp2
      go_meet
      case rel => exact ⟨_, rfl, by simp [], S7⟩
     | false =>
      by_cases h0 : L = 0
      ·have h0b : (L == 0) = true := beq_iff_eq.mpr h0
       have h0a := Aside0.mk h0
       clear h0
       go_wp2
       go_meet
       case rel => exact ⟨_, rfl, by simp [h0a.out], S7⟩
      have h0b : (L == 0) = false := beq_eq_false_iff_ne.mpr h0
      go_wp2
      go_meet
      case rel => exact ⟨_, rfl, by simp [h0], S7⟩
  clear hcl hca hce_0 hce_1 hce_2 hce_3 hce_4 hce_5 hce_6 hce_7 hce_8
  obtain ⟨b, rfl, hb, S8⟩ := hcut
  clear S7
  have hce_0 : wc.cell? ⟨ge, 0, none⟩ = some (.bool true) := (blk_cell S8.e 0).trans rfl
  have hce_1 : wc.cell? ⟨ge, 1, none⟩ = some (.bool e1) := (blk_cell S8.e 1).trans rfl
  have hce_2 : wc.cell? ⟨ge, 2, none⟩ = some (.bool e2) := (blk_cell S8.e 2).trans rfl
  have hce_3 : wc.cell? ⟨ge, 3, none⟩ = some (.bool e3) := (blk_cell S8.e 3).trans rfl
  have hce_4 : wc.cell? ⟨ge, 4, none⟩ = some (.bool e4) := (blk_cell S8.e 4).trans rfl
  have hce_5 : wc.cell? ⟨ge, 5, none⟩ = some (.bool e5) := (blk_cell S8.e 5).trans rfl
  have hce_6 : wc.cell? ⟨ge, 6, none⟩ = some (.bool e6) := (blk_cell S8.e 6).trans rfl
  have hce_7 : wc.cell? ⟨ge, 7, none⟩ = some (.bool e7) := (blk_cell S8.e 7).trans rfl
  have hce_8 : wc.cell? ⟨ge, 8, none⟩ = some (.int .i64 e8) := (blk_cell S8.e 8).trans rfl
  have hcl : wc.cell? ⟨gl, 0, none⟩ = some (.int .i64 L) := (blk_cell S8.l 0).trans rfl
  have hca : wc.cell? ⟨ga, 0, none⟩ = some (.int .i64 p) := (blk_cell S8.a 0).trans rfl
  by_cases hq : e4 = true ∨ e5 = true ∨ e6 = true ∨ L = 0
  ·obtain rfl := hb.mpr hq
   rw [if_pos hq] at H
   clear hq hb
   simp only [Option.some.injEq, Prod.mk.injEq] at H
   obtain ⟨rfl, rfl, rfl, rfl, rfl⟩ := H
   go_wp2_with (first | (go_at_call 90; (refine (impl_translate.clo 5 L p ⟨gl, 0, none⟩ ⟨ga, 0, none⟩ _ hcl hca).mono ?_); rintro e w7 ⟨rfl, hb⟩; have T7 := S8.below hb; have hcr_0 : w7.cell? ⟨gr, 0, none⟩ = some (.int .i64 0) := (blk_cell T7.r 0).trans rfl; have hfr_0 := blk_frozen T7.r 0; have hcr_1 : w7.cell? ⟨gr, 1, none⟩ = some (.int .i64 0) := (blk_cell T7.r 1).trans rfl; have hfr_1 := blk_frozen T7.r 1; have hcr_2 : w7.cell? ⟨gr, 2, none⟩ = some (.int .i64 0) := (blk_cell T7.r 2).trans rfl; have hfr_2 := blk_frozen T7.r 2; have hcr_3 : w7.cell? ⟨gr, 3, none⟩ = some (.int .i64 0) := (blk_cell T7.r 3).trans rfl; have hfr_3 := blk_frozen T7.r 3; have hcr_4 : w7.cell? ⟨gr, 4, none⟩ = some (.int .u64 0) := (blk_cell T7.r 4).trans rfl; have hfr_4 := blk_frozen T7.r 4))
   refine hQ.out _ _ (bodyPost_ret (results_cell_row rfl _ _ gr 36 #[.int .i64 5, .int .i64 L, .int .i64 p, .int .i64 0, .int .u64 0] (0, 0) _ rfl (impl_translate.put5 T7.r) Try.underlying36 rfl Z2_8) rfl ?_)
   exact ⟨rfl, impl_translate.far5 T7.B GEr.out⟩
  have hbf : b = false := Bool.eq_false_iff.mpr (fun h => hq (hb.mp h))
  have h0 : Aside0 (¬ L = 0) := ⟨fun h => hq (.inr (.inr (.inr h)))⟩
  subst hbf
  rw [if_neg hq] at H
  clear hb hq
  have HL := Aside0.mk H
  clear H
  go_wp2
  exact hE.out HL.out h0.out S8
 have hbf : b = false := Bool.eq_false_iff.mpr (fun h => hq (hb.mp h))
 subst hbf
 rw [if_neg hq] at H
 clear hb hq
 go_upto_region 19 with (first | fail)
 exact impl_translate.tail19 GEr GEe NBel NBer NBea hL H S7 hQ (by assumption) (by assumption)
set_option maxHeartbeats 8000000 in
set_option maxRecDepth 100000 in
theorem impl_translate.tail11 {k1 : Nat} {l0 : List Int} {a2 a3 : Int} {a4 : Bool} {r1 r2 r3 r4 r5 : Int} {w w5 : World} {gr gl ga ge : Nat} {L p x e8 : Int} {e0 e1 e2 e3 e4 e5 e6 e7 : Bool} {s0 s1 s5 s6 s7 s8 s9 s11 s16 s19 s20 s21 s22 s23 s24 s25 s26 s27 s28 s29 s30 s31 s32 s33 s34 s35 s36 s37 s38 s39 s40 s41 s42 s43 s44 s45 s46 s47 s48 s49 s50 s51 s52 s53 s54 s55 s56 s57 s58 s59 s60 s61 s62 s63 s64 s65 s66 s67 s68 s69 s70 s71 s72 s73 s74 s75 s76 s77 s78 s79 s80 s81 s82 s83 s84 s85 s86 s87 s88 s89 s90 s91 s92 s93 s94 s95 s96 s97 s98 s99 s100 s101 s102 s103 s104 s105 s106 s107 s108 s109 s110 s111 s112 s113 s114 s115 s116 s117 s118 s119 s120 s121 s122 s123 s124 s125 s126 s127 s128 s129 s130 s131 s132 s133 s134 s135 s136 s137 s138 s139 s140 s141 s142 s143 s144 s145 s146 s147 s148 s149 s150 s151 s152 s153 s154 s155 s156 s157 s158 s159 s160 s161 s162 s163 s164 s165 s166 s167 s168 s169 s170 s171 : Value} {Kc Kd K2 K3 : Act → World → Prop} {Q1 : Exit → Act → World → Prop}
  (GEr : Aside0 (w.heap.size ≤ gr)) (GEe : w.heap.size ≤ ge) (NBel : ge ≠ gl) (NBer : ge ≠ gr) (NBea : ge ≠ ga) (hL : 0 ≤ L ∧ L ≤ 2)
  (H : (if e0 = false then some (4, L, p, 0, 0) else if x / 1048576 ≠ 0 ∨ (e2 = true ∧ e1 = false) then some (5, L, p, 0, 0) else (if e1 = false ∧ e2 = false ∧ e3 = false then (if e4 = true ∨ e5 = true ∨ e6 = true ∨ L = 0 then some (5, L, p, 0, 0) else impl_translate.l0 k1 l0 e8 (L - 1) a2 a3 a4) else (if Int.tmod e8 (2 ^ (5 * L).toNat) ≠ 0 then some (6, L, p, 0, 0) else if a4 = true ∧ e4 = false then some (7, L, p, 0, 0) else (if ¬ ((a3 = 0 ∧ e1 = true) ∨ (a3 = 1 ∧ e2 = true) ∨ (a3 = 2 ∧ e3 = true)) then some (8, L, p, 0, 0) else (impl_PutEntry.f k1 e0 e1 e2 e3 e4 true (e6 || decide (a3 = 1)) e7 e8).bind fun y => some (0, L, p, wrap64 (wrap64 (e8 * 256) + wrap64 (Go.bits .and .u64 a2 (2 ^ (8 + 5 * L).toNat - 1))), y.1))))) = some (r1, r2, r3, r4, r5))
  (S5 : impl_translate.St w w5 gr gl ga ge L p #[.bool e0, .bool e1, .bool e2, .bool e3, .bool e4, .bool e5, .bool e6, .bool e7, .int .i64 e8])
  (hQ : Aside0 (∀ a w2, (bodyPost Try.prog Try.f54 fun e w1 => e = .returned (.agg #[.int .i64 r1, .int .i64 r2, .int .i64 r3, .int .i64 r4, .int .u64 r5]) ∧ Below w.heap.size w w1) Exit.ret a w2 → Q1 Exit.ret a w2))
  (hc : ∀ a w2, Code.wp Try.prog (impl_translate.path [true, true, true, false, false, false, false, true, true, true, true, true, true, false, true] (Try.f54.body.getD .skip)) (Exit.then Kd (Exit.inBlock 1 (Exit.then K2 (Exit.then K3 (Exit.inBlock 0 Q1))))) a w2 → Kc a w2)
  (hd : ∀ a w2, Code.wp Try.prog (impl_translate.path [true, true, true, false, false, false, false, true, true, true, true, true, true, true] (Try.f54.body.getD .skip)) (Exit.inBlock 1 (Exit.then K2 (Exit.then K3 (Exit.inBlock 0 Q1)))) a w2 → Kd a w2)
  (hE : Aside0 (impl_translate.l0 k1 l0 e8 (L - 1) a2 a3 a4 = some (r1, r2, r3, r4, r5) → ¬ L = 0 → ∀ {u13 u14 u15 u16 u17 u18 u19 u20 u22 u23 u24 u25 u26 u27 u28 u29 u30 u31 u32 u33 u34 u35 u36 u37 u38 u39 u40 u41 u42 u43 u44 u45 u46 u47 u48 u49 u50 u51 u52 u53 u54 u55 u56 u57 u58 u59 u60 u61 u62 u63 u64 u65 u66 u67 u68 u69 u70 u71 u72 u73 u74 u75 u76 u77 u78 u79 u80 u81 u82 u83 u84 u85 u86 u87 u88 u89 u90 u91 u92 u93 u94 u95 u96 u97 u98 u99 u100 u101 u102 u103 u104 u105 u106 u107 u108 u109 u110 u111 u112 u113 u114 u115 u116 u117 u118 u119 u120 u121 u122 u123 u124 u125 u126 u127 u128 u129 u130 u131 u132 u133 u134 u135 u136 u137 u138 u139 u140 u141 u142 u143 u144 u145 u146 u147 u148 u149 u150 u151 u152 u153 u154 u155 u156 u157 u158 u159 u160 u161 u162 u163 u164 u165 u166 u167 u168 u169 u170 u171 : Value} {wc : World}, impl_translate.St w wc gr gl ga ge L p #[.bool true, .bool e1, .bool e2, .bool e3, .bool e4, .bool e5, .bool e6, .bool e7, .int .i64 e8] → K2 { tmps := (List.toArray (s0 :: s1 :: (.int .u64 a2) :: (.int .i64 a3) :: (.bool a4) :: s5 :: s6 :: s7 :: s8 :: s9 :: (.pointer (some ⟨gr, 0, none⟩)) :: (.int .i64 e8) :: (.pointer (some ⟨gl, 0, none⟩)) :: u13 :: u14 :: u15 :: u16 :: u17 :: u18 :: u19 :: u20 :: s21 :: u22 :: u23 :: u24 :: u25 :: u26 :: u27 :: u28 :: u29 :: u30 :: u31 :: u32 :: u33 :: u34 :: u35 :: u36 :: u37 :: u38 :: u39 :: u40 :: u41 :: u42 :: u43 :: u44 :: u45 :: u46 :: u47 :: u48 :: u49 :: u50 :: u51 :: u52 :: u53 :: u54 :: u55 :: u56 :: u57 :: u58 :: u59 :: u60 :: u61 :: u62 :: u63 :: u64 :: u65 :: u66 :: u67 :: u68 :: u69 :: u70 :: u71 :: u72 :: u73 :: u74 :: u75 :: u76 :: u77 :: u78 :: u79 :: u80 :: u81 :: u82 :: u83 :: u84 :: u85 :: u86 :: u87 :: u88 :: u89 :: u90 :: u91 :: u92 :: u93 :: u94 :: u95 :: u96 :: u97 :: u98 :: u99 :: u100 :: u101 :: u102 :: u103 :: u104 :: u105 :: u106 :: u107 :: u108 :: u109 :: u110 :: u111 :: u112 :: u113 :: u114 :: u115 :: u116 :: u117 :: u118 :: u119 :: u120 :: u121 :: u122 :: u123 :: u124 :: u125 :: u126 :: u127 :: u128 :: u129 :: u130 :: u131 :: u132 :: u133 :: u134 :: u135 :: u136 :: u137 :: u138 :: u139 :: u140 :: u141 :: u142 :: u143 :: u144 :: u145 :: u146 :: u147 :: u148 :: u149 :: u150 :: u151 :: u152 :: u153 :: u154 :: u155 :: u156 :: u157 :: u158 :: u159 :: u160 :: u161 :: u162 :: u163 :: u164 :: u165 :: u166 :: u167 :: u168 :: u169 :: u170 :: u171 :: [])), defers := [] } wc))
  : Code.wp Try.prog (impl_translate.path [true, true, true, false, false, false, false, true, true, true, true, true, true, false, false] (Try.f54.body.getD .skip)) (Exit.then Kc (Exit.then Kd (Exit.inBlock 1 (Exit.then K2 (Exit.then K3 (Exit.inBlock 0 Q1)))))) { tmps := (List.toArray (s0 :: s1 :: (.int .u64 a2) :: (.int .i64 a3) :: (.bool a4) :: s5 :: s6 :: s7 :: s8 :: s9 :: (.pointer (some ⟨gr, 0, none⟩)) :: s11 :: (.pointer (some ⟨gl, 0, none⟩)) :: (.int .i64 (8 + 5 * L)) :: (.pointer (some ⟨ga, 0, none⟩)) :: (.int .u64 x) :: s16 :: (.pointer (some ⟨ge, 0, none⟩)) :: (.func (Fn.func 90) #[] #[.pointer (some ⟨gl, 0, none⟩), .pointer (some ⟨ga, 0, none⟩)]) :: s19 :: s20 :: s21 :: s22 :: s23 :: s24 :: s25 :: s26 :: s27 :: s28 :: s29 :: s30 :: s31 :: s32 :: s33 :: s34 :: s35 :: s36 :: s37 :: s38 :: s39 :: s40 :: s41 :: s42 :: s43 :: s44 :: s45 :: s46 :: s47 :: s48 :: s49 :: s50 :: s51 :: s52 :: s53 :: s54 :: s55 :: s56 :: s57 :: s58 :: s59 :: s60 :: s61 :: s62 :: s63 :: s64 :: s65 :: s66 :: s67 :: s68 :: s69 :: s70 :: s71 :: s72 :: s73 :: s74 :: s75 :: s76 :: s77 :: s78 :: s79 :: s80 :: s81 :: s82 :: s83 :: s84 :: s85 :: s86 :: s87 :: s88 :: s89 :: s90 :: s91 :: s92 :: s93 :: s94 :: s95 :: s96 :: s97 :: s98 :: s99 :: s100 :: s101 :: s102 :: s103 :: s104 :: s105 :: s106 :: s107 :: s108 :: s109 :: s110 :: s111 :: s112 :: s113 :: s114 :: s115 :: s116 :: s117 :: s118 :: s119 :: s120 :: s121 :: s122 :: s123 :: s124 :: s125 :: s126 :: s127 :: s128 :: s129 :: s130 :: s131 :: s132 :: s133 :: s134 :: s135 :: s136 :: s137 :: s138 :: s139 :: s140 :: s141 :: s142 :: s143 :: s144 :: s145 :: s146 :: s147 :: s148 :: s149 :: s150 :: s151 :: s152 :: s153 :: s154 :: s155 :: s156 :: s157 :: s158 :: s159 :: s160 :: s161 :: s162 :: s163 :: s164 :: s165 :: s166 :: s167 :: s168 :: s169 :: s170 :: s171 :: [])), defers := [] } w5 := by
 have hu36 := Try.underlying36
 have hu27 := Try.underlying27
 have hs0 : wrap64 (5 * L) = 5 * L := by unfold wrap64; omega
 replace hc := fun a w2 (h : Code.wp Try.prog (Code.cond _ _ _) _ a w2) => hc a w2 h
 replace hd := fun a w2 (h : Code.wp Try.prog (Code.seq _ _) _ a w2) => hd a w2 h
 change Code.wp _ (Code.region _ _ _) _ _ _
 have hce_0 : w5.cell? ⟨ge, 0, none⟩ = some (.bool e0) := (blk_cell S5.e 0).trans rfl
 have hce_1 : w5.cell? ⟨ge, 1, none⟩ = some (.bool e1) := (blk_cell S5.e 1).trans rfl
 have hce_2 : w5.cell? ⟨ge, 2, none⟩ = some (.bool e2) := (blk_cell S5.e 2).trans rfl
 have hce_3 : w5.cell? ⟨ge, 3, none⟩ = some (.bool e3) := (blk_cell S5.e 3).trans rfl
 have hce_4 : w5.cell? ⟨ge, 4, none⟩ = some (.bool e4) := (blk_cell S5.e 4).trans rfl
 have hce_5 : w5.cell? ⟨ge, 5, none⟩ = some (.bool e5) := (blk_cell S5.e 5).trans rfl
 have hce_6 : w5.cell? ⟨ge, 6, none⟩ = some (.bool e6) := (blk_cell S5.e 6).trans rfl
 have hce_7 : w5.cell? ⟨ge, 7, none⟩ = some (.bool e7) := (blk_cell S5.e 7).trans rfl
 have hce_8 : w5.cell? ⟨ge, 8, none⟩ = some (.int .i64 e8) := (blk_cell S5.e 8).trans rfl
 have hcl : w5.cell? ⟨gl, 0, none⟩ = some (.int .i64 L) := (blk_cell S5.l 0).trans rfl
 have hca : w5.cell? ⟨ga, 0, none⟩ = some (.int .i64 p) := (blk_cell S5.a 0).trans rfl
 cases e0 with
 | false =>
  rw [if_pos rfl] at H
  simp only [Option.some.injEq, Prod.mk.injEq] at H
  obtain ⟨rfl, rfl, rfl, rfl, rfl⟩ := H
  go_wp2_with (first | (go_at_call 90; (refine (impl_translate.clo 4 L p ⟨gl, 0, none⟩ ⟨ga, 0, none⟩ _ hcl hca).mono ?_); rintro e w7 ⟨rfl, hb⟩; have T7 := S5.below hb; have hcr_0 : w7.cell? ⟨gr, 0, none⟩ = some (.int .i64 0) := (blk_cell T7.r 0).trans rfl; have hfr_0 := blk_frozen T7.r 0; have hcr_1 : w7.cell? ⟨gr, 1, none⟩ = some (.int .i64 0) := (blk_cell T7.r 1).trans rfl; have hfr_1 := blk_frozen T7.r 1; have hcr_2 : w7.cell? ⟨gr, 2, none⟩ = some (.int .i64 0) := (blk_cell T7.r 2).trans rfl; have hfr_2 := blk_frozen T7.r 2; have hcr_3 : w7.cell? ⟨gr, 3, none⟩ = some (.int .i64 0) := (blk_cell T7.r 3).trans rfl; have hfr_3 := blk_frozen T7.r 3; have hcr_4 : w7.cell? ⟨gr, 4, none⟩ = some (.int .u64 0) := (blk_cell T7.r 4).trans rfl; have hfr_4 := blk_frozen T7.r 4))
  refine hQ.out _ _ (bodyPost_ret (results_cell_row rfl _ _ gr 36 #[.int .i64 4, .int .i64 L, .int .i64 p, .int .i64 0, .int .u64 0] (0, 0) _ rfl (impl_translate.put5 T7.r) Try.underlying36 rfl Z2_8) rfl ?_)
  exact ⟨rfl, impl_translate.far5 T7.B GEr.out⟩
 | true =>
  rw [if_neg (by decide)] at H
  go_upto_region 13 with (first | fail)
  go_cut [72] from 22 to 171 (fun v72 wc => ∃ b : Bool, v72 = .bool b ∧ (b = true ↔ (x / 1048576 ≠ 0 ∨ (e2 = true ∧ e1 = false))) ∧ impl_translate.St w wc gr gl ga ge L p #[.bool true, .bool e1, .bool e2, .bool e3, .bool e4, .bool e5, .bool e6, .bool e7, .int .i64 e8])
  case first =>
   by_cases hx : x / 1048576 = 0
   ·have hxb1 : (x / 1048576 != 0) = false := bne_eq_false_iff_eq.mpr hx
    cases e2 with
    | true =>
     cases e1 with
     | true =>
      go_wp2
      go_meet
      case rel => exact ⟨_, rfl, by simp [hx], S5⟩
     | false =>
      go_wp2
      go_meet
      case rel => exact ⟨_, rfl, by simp [hx], S5⟩
    | false =>
     go_wp2
     go_meet
     case rel => exact ⟨_, rfl, by simp [hx], S5⟩
   have hxb1 : (x / 1048576 != 0) = true := bne_iff_ne.mpr hx
   go_wp2
   go_meet
   case rel => exact ⟨_, rfl, by simp [hx], S5⟩
  clear hcl hca hce_0 hce_1 hce_2 hce_3 hce_4 hce_5 hce_6 hce_7 hce_8
  obtain ⟨b, rfl, hb, S6⟩ := hcut
  clear S5
  have hce_0 : wc.cell? ⟨ge, 0, none⟩ = some (.bool true) := (blk_cell S6.e 0).trans rfl
  have hce_1 : wc.cell? ⟨ge, 1, none⟩ = some (.bool e1) := (blk_cell S6.e 1).trans rfl
  have hce_2 : wc.cell? ⟨ge, 2, none⟩ = some (.bool e2) := (blk_cell S6.e 2).trans rfl
  have hce_3 : wc.cell? ⟨ge, 3, none⟩ = some (.bool e3) := (blk_cell S6.e 3).trans rfl
  have hce_4 : wc.cell? ⟨ge, 4, none⟩ = some (.bool e4) := (blk_cell S6.e 4).trans rfl
  have hce_5 : wc.cell? ⟨ge, 5, none⟩ = some (.bool e5) := (blk_cell S6.e 5).trans rfl
  have hce_6 : wc.cell? ⟨ge, 6, none⟩ = some (.bool e6) := (blk_cell S6.e 6).trans rfl
  have hce_7 : wc.cell? ⟨ge, 7, none⟩ = some (.bool e7) := (blk_cell S6.e 7).trans rfl
  have hce_8 : wc.cell? ⟨ge, 8, none⟩ = some (.int .i64 e8) := (blk_cell S6.e 8).trans rfl
  have hcl : wc.cell? ⟨gl, 0, none⟩ = some (.int .i64 L) := (blk_cell S6.l 0).trans rfl
  have hca : wc.cell? ⟨ga, 0, none⟩ = some (.int .i64 p) := (blk_cell S6.a 0).trans rfl
  by_cases hq : x / 1048576 ≠ 0 ∨ (e2 = true ∧ e1 = false)
  ·obtain rfl := hb.mpr hq
   rw [if_pos hq] at H
   clear hq hb
   simp only [Option.some.injEq, Prod.mk.injEq] at H
   obtain ⟨rfl, rfl, rfl, rfl, rfl⟩ := H
   go_wp2_with (first | (go_at_call 90; (refine (impl_translate.clo 5 L p ⟨gl, 0, none⟩ ⟨ga, 0, none⟩ _ hcl hca).mono ?_); rintro e w7 ⟨rfl, hb⟩; have T7 := S6.below hb; have hcr_0 : w7.cell? ⟨gr, 0, none⟩ = some (.int .i64 0) := (blk_cell T7.r 0).trans rfl; have hfr_0 := blk_frozen T7.r 0; have hcr_1 : w7.cell? ⟨gr, 1, none⟩ = some (.int .i64 0) := (blk_cell T7.r 1).trans rfl; have hfr_1 := blk_frozen T7.r 1; have hcr_2 : w7.cell? ⟨gr, 2, none⟩ = some (.int .i64 0) := (blk_cell T7.r 2).trans rfl; have hfr_2 := blk_frozen T7.r 2; have hcr_3 : w7.cell? ⟨gr, 3, none⟩ = some (.int .i64 0) := (blk_cell T7.r 3).trans rfl; have hfr_3 := blk_frozen T7.r 3; have hcr_4 : w7.cell? ⟨gr, 4, none⟩ = some (.int .u64 0) := (blk_cell T7.r 4).trans rfl; have hfr_4 := blk_frozen T7.r 4))
   refine hQ.out _ _ (bodyPost_ret (results_cell_row rfl _ _ gr 36 #[.int .i64 5, .int .i64 L, .int .i64 p, .int .i64 0, .int .u64 0] (0, 0) _ rfl (impl_translate.put5 T7.r) Try.underlying36 rfl Z2_8) rfl ?_)
   exact ⟨rfl, impl_translate.far5 T7.B GEr.out⟩
  have hbf : b = false := Bool.eq_false_iff.mpr (fun h => hq (hb.mp h))
  subst hbf
  rw [if_neg hq] at H
  clear hb hq
  go_upto_region 15 with (first | fail)
  exact impl_translate.tail15 GEr GEe NBel NBer NBea hL H S6 hQ (by assumption) (by assumption) hE
set_option maxHeartbeats 8000000 in
set_option maxRecDepth 100000 in
theorem impl_translate.calls (k : Nat) (A0 : Option Addr) (c0 : Nat) (l0 : List Int) (a1 a2 a3 : Int) (a4 : Bool) (r1 r2 r3 r4 r5 : Int) (w : World) (hr0 : Kd.C (Kd.int .u8) w A0 l0.length l0) (hc0 : l0.length ≤ c0) (h : impl_translate.f k l0 a1 a2 a3 a4 = some (r1, r2, r3, r4, r5)) :
  Calls Try.prog 54 #[.slice A0 l0.length c0, .int .i64 a1, .int .u64 a2, .int .i64 a3, .bool a4] w fun e w' => e = .returned (.agg #[.int .i64 r1, .int .i64 r2, .int .i64 r3, .int .i64 r4, .int .u64 r5]) ∧ Below w.heap.size w w' := by
 have HR0 := Aside0.mk hr0
 have HC0 := Aside0.mk hc0
 have hu36 := Try.underlying36
 have hu27 := Try.underlying27
 have HB := Aside0.mk (Below.refl w.heap.size w)
 have H' := Aside0.mk (show impl_translate.l0 k l0 a1 2 a2 a3 a4 = some (r1, r2, r3, r4, r5) from h)
 clear h hr0 hc0
 go_enter Try.func54, Try.ntmps54
 go_wp2_with (first | ((with_reducible refine gate_dst (N := 10) rfl ?_); refine box_event ?hg (N := 10) ?hd (cs := #[.int .i64 0, .int .i64 0, .int .i64 0, .int .i64 0, .int .u64 0]) (t := 36) ?hr ?_; (case hd => rfl); (case hg => rfl); (case hr => exact Z2_7); intro gr hg w8 hbox hb; have HBn := Aside0.mk (below_step HB.out hb); have BKr := Aside0.mk hbox; have GEr := Aside0.mk (show w.heap.size ≤ gr by rw [hg]; exact below_size HB.out); clear HB hb hbox hg; have HB := HBn; clear HBn) | ((with_reducible refine gate_dst (N := 12) rfl ?_); refine box_event ?hg (N := 12) ?hd (cs := #[.int .i64 0]) (t := 2) ?hr ?_; (case hd => rfl); (case hg => rfl); (case hr => exact Z2_7); intro gl hg w9 hbox hb; have GEl := Aside0.mk (show w.heap.size ≤ gl by rw [hg]; exact below_size HB.out); have NBl := Aside0.mk (show gl ≠ gr by rw [hg]; exact Nat.ne_of_gt (blk_lt BKr.out)); have BKn := Aside0.mk (blk_below BKr.out hb); have HBn := Aside0.mk (below_step HB.out hb); have BKl := Aside0.mk hbox; clear HB hb hbox hg BKr; have HB := HBn; have BKr := BKn; clear HBn BKn; have hcl : w9.cell? ⟨gl, 0, none⟩ = some (.int .i64 0) := (blk_cell BKl.out 0).trans rfl; have hfl := blk_frozen BKl.out 0))
 go_loopg [11, 12] k (fun kq v11 v12 w' => ∃ (t L : Int) (gl : Nat), v11 = .int .i64 t ∧ v12 = .pointer (some ⟨gl, 0, none⟩) ∧ Aside0 (impl_translate.l0 kq l0 t L a2 a3 a4 = some (r1, r2, r3, r4, r5)) ∧ Aside0 (kq ≤ k) ∧ Aside0 (w'.heap[gl]? = some (.cells #[.int .i64 L] 2 (0, 0))) ∧ Aside0 (w'.heap[gr]? = some (.cells #[.int .i64 0, .int .i64 0, .int .i64 0, .int .i64 0, .int .u64 0] 36 (0, 0))) ∧ Aside0 (w.heap.size ≤ gl) ∧ Aside0 (gl ≠ gr) ∧ Aside0 (Below w.heap.size w w'))
 case atStart => exact ⟨a1, 2, gl, rfl, rfl, H', ⟨Nat.le_refl _⟩, ⟨blk_put BKl.out 0 _ rfl⟩, ⟨blk_far BKr.out (Ne.symm NBl.out) _⟩, GEl, NBl, ⟨below_set HB.out GEl.out⟩⟩
 clear H'
 obtain ⟨t, L, gl, rfl, rfl, HA, HK, BKl, BKr, GEl, NBl, HB⟩ := hrel
 cases gk with
 | zero => exact absurd HA.out (by simp [impl_translate.l0])
 | succ k1 =>
  have H := HA.out
  clear HA
  simp only [impl_translate.l0] at H
  by_cases hL : 0 ≤ L ∧ L ≤ 2
  ·rw [if_pos hL] at H
   have hcl : wr.cell? ⟨gl, 0, none⟩ = some (.int .i64 L) := (blk_cell BKl.out 0).trans rfl
   have hfl := blk_frozen BKl.out 0
   have hcr_0 : wr.cell? ⟨gr, 0, none⟩ = some (.int .i64 0) := (blk_cell BKr.out 0).trans rfl; have hcr_1 : wr.cell? ⟨gr, 1, none⟩ = some (.int .i64 0) := (blk_cell BKr.out 1).trans rfl; have hcr_2 : wr.cell? ⟨gr, 2, none⟩ = some (.int .i64 0) := (blk_cell BKr.out 2).trans rfl; have hcr_3 : wr.cell? ⟨gr, 3, none⟩ = some (.int .i64 0) := (blk_cell BKr.out 3).trans rfl; have hcr_4 : wr.cell? ⟨gr, 4, none⟩ = some (.int .u64 0) := (blk_cell BKr.out 4).trans rfl; have hfr_0 := blk_frozen BKr.out 0; have hfr_1 := blk_frozen BKr.out 1; have hfr_2 := blk_frozen BKr.out 2; have hfr_3 := blk_frozen BKr.out 3; have hfr_4 := blk_frozen BKr.out 4
   by_cases c1 : t < 0
   ·rw [if_pos (Or.inl c1)] at H
    have c1b : decide (t < 0) = true := decide_eq_true c1
    simp only [Option.some.injEq, Prod.mk.injEq] at H
    obtain ⟨rfl, rfl, rfl, rfl, rfl⟩ := H
    go_wp2
    refine bodyPost_ret (results_cell_row rfl _ _ gr 36 #[.int .i64 3, .int .i64 L, .int .i64 0, .int .i64 0, .int .u64 0] (0, 0) _ rfl (impl_translate.put5 BKr.out) Try.underlying36 rfl Z2_8) rfl ?_
    exact ⟨rfl, impl_translate.far5 HB.out GEr.out⟩
   have c1b : decide (t < 0) = false := decide_eq_false c1
   by_cases c2 : t ≥ wrap64 ((l0.length : Int) / 256)
   ·rw [if_pos (Or.inr c2)] at H
    simp only [Option.some.injEq, Prod.mk.injEq] at H
    obtain ⟨rfl, rfl, rfl, rfl, rfl⟩ := H
    have c2b : decide (t ≥ wrap64 ((l0.length : Int) / 256)) = true := decide_eq_true c2
    go_wp2
    refine bodyPost_ret (results_cell_row rfl _ _ gr 36 #[.int .i64 3, .int .i64 L, .int .i64 0, .int .i64 0, .int .u64 0] (0, 0) _ rfl (impl_translate.put5 BKr.out) Try.underlying36 rfl Z2_8) rfl ?_
    exact ⟨rfl, impl_translate.far5 HB.out GEr.out⟩
   have c2b : decide (t ≥ wrap64 ((l0.length : Int) / 256)) = false := decide_eq_false c2
   rw [if_neg (by omega)] at H
   replace H := Option.bind_eq_some_iff.mp H
   obtain ⟨⟨x, xb⟩, AL, H⟩ := H
   replace H := Option.bind_eq_some_iff.mp H
   obtain ⟨⟨e0, e1, e2, e3, e4, e5, e6, e7, e8⟩, AE, H⟩ := H
   simp only at H AE
   have hs0 : wrap64 (5 * L) = 5 * L := by unfold wrap64; omega
   have hs1 : impl_translate.sh L = 8 + 5 * L := by unfold impl_translate.sh; rw [hs0]; unfold wrap64; omega
   clear hcr_0 hcr_1 hcr_2 hcr_3 hcr_4 hfr_0 hfr_1 hfr_2 hfr_3 hfr_4
   simp only [impl_translate.at] at H AL
   go_upto_region 11 with (first | ((with_reducible refine gate_dst (N := 14) rfl ?_); refine box_event ?hg (N := 14) ?hd (cs := #[.int .i64 0]) (t := 2) ?hr ?_; (case hd => rfl); (case hg => rfl); (case hr => exact Z2_7); intro ga hg w9 hbox hb; have GEa : w.heap.size ≤ ga := (by rw [hg]; exact below_size HB.out); have NBal : ga ≠ gl := (by rw [hg]; exact Nat.ne_of_gt (blk_lt BKl.out)); have NBar : ga ≠ gr := (by rw [hg]; exact Nat.ne_of_gt (blk_lt BKr.out)); have n0_ := Aside0.mk (blk_below BKr.out hb); have n1_ := Aside0.mk (blk_below BKl.out hb); have n2_ := Aside0.mk (below_step HB.out hb); have BKa := Aside0.mk hbox; clear HB hb hbox hg BKr BKl hcl hfl; have HB := n2_; have BKr := n0_; have BKl := n1_; clear n0_ n1_ n2_; have hca : w9.cell? ⟨ga, 0, none⟩ = some (.int .i64 0) := (blk_cell BKa.out 0).trans rfl; have hfa := blk_frozen BKa.out 0; have hcl : w9.cell? ⟨gl, 0, none⟩ = some (.int .i64 L) := (blk_cell BKl.out 0).trans rfl) | ((with_reducible refine gate_callee (f := 56) rfl ?_); refine goesL_ (some 50) rfl rfl Try.func56 Z2_8 rfl #[.slice A0 l0.length c0, .int .i64 (wrap64 (wrap64 (t * 256) + wrap64 (wrap64 (Go.bits .and .u64 (a2 / 2 ^ (8 + 5 * L).toNat) 31) * 8))), .int .i64 8, .bool false] rfl Z2_6 ?_; (with_reducible refine (impl_LoadWord.calls k1 _ _ l0 (wrap64 (wrap64 (t * 256) + wrap64 (wrap64 (Go.bits .and .u64 (a2 / 2 ^ (8 + 5 * L).toNat) 31) * 8))) 8 false x xb _ ?side1 ?side2 AL).mono ?_); (case side1 => exact Kd.C_below HR0.out (below_set HB.out GEa)); (case side2 => exact HC0.out); rintro e w2 ⟨rfl, hd⟩; have n0_ : Aside0 (w2.heap[gr]? = some (.cells #[.int .i64 0, .int .i64 0, .int .i64 0, .int .i64 0, .int .u64 0] 36 (0, 0))) := ⟨by obtain ⟨nd, rfl⟩ := hd; refine blk_drewN ?_ _; exact blk_far BKr.out (Ne.symm NBar) _⟩; have n1_ : Aside0 (w2.heap[gl]? = some (.cells #[.int .i64 L] 2 (0, 0))) := ⟨by obtain ⟨nd, rfl⟩ := hd; refine blk_drewN ?_ _; exact blk_far BKl.out (Ne.symm NBal) _⟩; have n2_ : Aside0 (w2.heap[ga]? = some (.cells #[.int .i64 (wrap64 (wrap64 (t * 256) + wrap64 (wrap64 (Go.bits .and .u64 (a2 / 2 ^ (8 + 5 * L).toNat) 31) * 8)))] 2 (0, 0))) := ⟨by obtain ⟨nd, rfl⟩ := hd; refine blk_drewN ?_ _; exact blk_put BKa.out 0 _ rfl⟩; have n3_ : Aside0 (Below w.heap.size w w2) := ⟨by obtain ⟨nd, rfl⟩ := hd; exact pw_below_drewN (below_set HB.out GEa) _⟩; clear hd BKr BKl BKa HB hca hfa hcl; have BKr := n0_; have BKl := n1_; have BKa := n2_; have HB := n3_; clear n0_ n1_ n2_ n3_; refine ⟨_, rfl, ?_⟩) | ((with_reducible refine gate_callee (f := 50) rfl ?_); refine goesL_ (some 54) rfl rfl Try.func50 Z2_8 rfl #[.int .u64 x] rfl Z2_6 ?_; (with_reducible refine (impl_entryOf.calls x e0 e1 e2 e3 e4 e5 e6 e7 e8 _ AE).mono ?_); rintro e w3 ⟨rfl, hb⟩; have n0_ := Aside0.mk (blk_below BKr.out hb); have n1_ := Aside0.mk (blk_below BKl.out hb); have n2_ := Aside0.mk (blk_below BKa.out hb); have n3_ := Aside0.mk (below_step HB.out hb); clear hb BKr BKl BKa HB; have BKr := n0_; have BKl := n1_; have BKa := n2_; have HB := n3_; clear n0_ n1_ n2_ n3_; refine ⟨_, rfl, ?_⟩) | ((with_reducible refine gate_dst (N := 17) rfl ?_); refine box_event ?hg (N := 17) ?hd (cs := #[.bool false, .bool false, .bool false, .bool false, .bool false, .bool false, .bool false, .bool false, .int .i64 0]) (t := 27) ?hr ?_; (case hd => rfl); (case hg => rfl); (case hr => exact Z2_7); intro ge hg w4 hbox hb; have GEe : w.heap.size ≤ ge := (by rw [hg]; exact below_size HB.out); have NBel : ge ≠ gl := (by rw [hg]; exact Nat.ne_of_gt (blk_lt BKl.out)); have NBer : ge ≠ gr := (by rw [hg]; exact Nat.ne_of_gt (blk_lt BKr.out)); have NBea : ge ≠ ga := (by rw [hg]; exact Nat.ne_of_gt (blk_lt BKa.out)); have n0_ := Aside0.mk (blk_below BKr.out hb); have n1_ := Aside0.mk (blk_below BKl.out hb); have n2_ := Aside0.mk (below_step HB.out hb); have n3_ := Aside0.mk (blk_below BKa.out hb); have BKe := Aside0.mk hbox; clear HB hb hbox hg BKr BKl BKa; have HB := n2_; have BKr := n0_; have BKl := n1_; have BKa := n3_; clear n0_ n1_ n2_ n3_; have hce_0 : w4.cell? ⟨ge, 0, none⟩ = some (.bool false) := (blk_cell BKe.out 0).trans rfl; have hfe_0 := blk_frozen BKe.out 0; have hce_1 : w4.cell? ⟨ge, 1, none⟩ = some (.bool false) := (blk_cell BKe.out 1).trans rfl; have hfe_1 := blk_frozen BKe.out 1; have hce_2 : w4.cell? ⟨ge, 2, none⟩ = some (.bool false) := (blk_cell BKe.out 2).trans rfl; have hfe_2 := blk_frozen BKe.out 2; have hce_3 : w4.cell? ⟨ge, 3, none⟩ = some (.bool false) := (blk_cell BKe.out 3).trans rfl; have hfe_3 := blk_frozen BKe.out 3; have hce_4 : w4.cell? ⟨ge, 4, none⟩ = some (.bool false) := (blk_cell BKe.out 4).trans rfl; have hfe_4 := blk_frozen BKe.out 4; have hce_5 : w4.cell? ⟨ge, 5, none⟩ = some (.bool false) := (blk_cell BKe.out 5).trans rfl; have hfe_5 := blk_frozen BKe.out 5; have hce_6 : w4.cell? ⟨ge, 6, none⟩ = some (.bool false) := (blk_cell BKe.out 6).trans rfl; have hfe_6 := blk_frozen BKe.out 6; have hce_7 : w4.cell? ⟨ge, 7, none⟩ = some (.bool false) := (blk_cell BKe.out 7).trans rfl; have hfe_7 := blk_frozen BKe.out 7; have hce_8 : w4.cell? ⟨ge, 8, none⟩ = some (.int .i64 0) := (blk_cell BKe.out 8).trans rfl; have hfe_8 := blk_frozen BKe.out 8))
   (try simp only [Act.put, List.setIfInBounds_toArray, List.set_cons_zero, List.set_cons_succ])
   refine impl_translate.gen (fun w5 => impl_translate.St w w5 gr gl ga ge L (wrap64 (wrap64 (t * 256) + wrap64 (wrap64 (Go.bits .and .u64 (a2 / 2 ^ (8 + 5 * L).toNat) 31) * 8))) #[.bool e0, .bool e1, .bool e2, .bool e3, .bool e4, .bool e5, .bool e6, .bool e7, .int .i64 e8]) ⟨impl_translate.far9 BKl.out (Ne.symm NBel), impl_translate.far9 BKa.out (Ne.symm NBea), impl_translate.far9 BKr.out (Ne.symm NBer), impl_translate.put9 BKe.out, impl_translate.below9 HB.out GEe⟩ ?_
   clear BKr BKl BKa BKe HB hce_0 hfe_0 hce_1 hfe_1 hce_2 hfe_2 hce_3 hfe_3 hce_4 hfe_4 hce_5 hfe_5 hce_6 hfe_6 hce_7 hfe_7 hce_8 hfe_8
   intro w5 S5
   refine impl_translate.tail11 GEr GEe NBel NBer NBea hL H S5 ⟨fun _ _ h => h⟩ (by assumption) (by assumption) ⟨?_⟩
   intro HL0 h0 u13 u14 u15 u16 u17 u18 u19 u20 u22 u23 u24 u25 u26 u27 u28 u29 u30 u31 u32 u33 u34 u35 u36 u37 u38 u39 u40 u41 u42 u43 u44 u45 u46 u47 u48 u49 u50 u51 u52 u53 u54 u55 u56 u57 u58 u59 u60 u61 u62 u63 u64 u65 u66 u67 u68 u69 u70 u71 u72 u73 u74 u75 u76 u77 u78 u79 u80 u81 u82 u83 u84 u85 u86 u87 u88 u89 u90 u91 u92 u93 u94 u95 u96 u97 u98 u99 u100 u101 u102 u103 u104 u105 u106 u107 u108 u109 u110 u111 u112 u113 u114 u115 u116 u117 u118 u119 u120 u121 u122 u123 u124 u125 u126 u127 u128 u129 u130 u131 u132 u133 u134 u135 u136 u137 u138 u139 u140 u141 u142 u143 u144 u145 u146 u147 u148 u149 u150 u151 u152 u153 u154 u155 u156 u157 u158 u159 u160 u161 u162 u163 u164 u165 u166 u167 u168 u169 u170 u171 wc S8
   have HL := Aside0.mk HL0
   clear HL0 H S5
   have h0b : (L == 0) = false := beq_eq_false_iff_ne.mpr h0
   have hLw : wrap64 (L - 1) = L - 1 := by unfold wrap64; omega
   clear h0
   have hcl : wc.cell? ⟨gl, 0, none⟩ = some (.int .i64 L) := (blk_cell S8.l 0).trans rfl
   have hfl := blk_frozen S8.l 0
   go_wp2_with (first | ((with_reducible refine gate_dst (N := 12) rfl ?_); refine box_event ?hg (N := 12) ?hd (cs := #[.int .i64 0]) (t := 2) ?hr ?_; (case hd => rfl); (case hg => rfl); (case hr => exact Z2_7); intro gn hg w7 hbox hb; have GEn := Aside0.mk (show w.heap.size ≤ gn by rw [hg]; exact below_size S8.B); have NBn := Aside0.mk (show gn ≠ gr by rw [hg]; exact Nat.ne_of_gt (blk_lt S8.r)); have S9 := S8.below hb; have BKn := Aside0.mk hbox; clear hb hbox hg; have hcn : w7.cell? ⟨gn, 0, none⟩ = some (.int .i64 0) := (blk_cell BKn.out 0).trans rfl; have hfn := blk_frozen BKn.out 0))
   go_roundg k1
   case measure => have := HK.out; omega
   case rel => exact ⟨e8, L - 1, gn, rfl, rfl, HL, ⟨by have := HK.out; omega⟩, ⟨blk_put (cs := #[.int .i64 L]) (blk_put BKn.out 0 _ rfl) 0 _ rfl⟩, ⟨blk_far (blk_far S9.r (Ne.symm NBn.out) _) (Ne.symm NBn.out) _⟩, GEn, NBn, ⟨below_set (below_set S9.B GEn.out) GEn.out⟩⟩
  rw [if_neg hL] at H; exact absurd H (by simp)
/-! ### impl_Translate: function 20 -/
def impl_Translate.j0 : Nat → List Int → Int → Int → Int → Bool → Bool → Option (Int × Int × Int × Int × Int)
 | 0, _, _, _, _, _, _ => none
 | k + 1, x0, x1, x2, x3, x4, x21 => if x21 = true then (some (1, 0, 0, 0, 0)) else (if x2 ≥ 8388608 then (some (2, 0, 0, 0, 0)) else ((impl_translate.f k x0 x1 x2 x3 x4).bind fun bt123 => (some (bt123.1, bt123.2.1, bt123.2.2.1, bt123.2.2.2.1, bt123.2.2.2.2))))
def impl_Translate.f (k : Nat) (l0 : List Int) (a1 : Int) (a2 : Int) (a3 : Int) (a4 : Bool) : Option (Int × Int × Int × Int × Int) := (impl_memOk.f l0).bind fun t122 => (if t122 = true then (if a3 < 0 then (impl_Translate.j0 k l0 a1 a2 a3 a4 true) else (impl_Translate.j0 k l0 a1 a2 a3 a4 (decide (a3 > 2)))) else (impl_Translate.j0 k l0 a1 a2 a3 a4 true))
theorem impl_Translate.mono_l : ∀ k, (∀ y0 y1 y2 y3 y4 y5, LeO (impl_Translate.j0 k y0 y1 y2 y3 y4 y5) (impl_Translate.j0 (k + 1) y0 y1 y2 y3 y4 y5))
 | 0 => fun _ _ _ _ _ _ r h => by simp [impl_Translate.j0] at h
 | k + 1 => by
  have ih0 := impl_Translate.mono_l k
  ·intro y0 y1 y2 y3 y4 y5
   unfold impl_Translate.j0
   repeat' first
   | (with_reducible exact ih0 _ _ _ _ _ _)
   | (with_reducible exact impl_translate.mono _ _ _ _ _ _)
   | (with_reducible exact LeO.refl _)
   | (with_reducible exact LeO.none _)
   | (with_reducible refine LeO.ite ?_ ?_)
   | (with_reducible refine LeO.bind ?_ (fun _ => ?_))
   | exact ih0 _ _ _ _ _ _
   | exact impl_translate.mono _ _ _ _ _ _
   | exact LeO.none _
   | refine LeO.ite ?_ ?_
   | refine LeO.bind ?_ (fun _ => ?_)
theorem impl_Translate.mono : ∀ a0 a1 a2 a3 a4 k, LeO (impl_Translate.f k a0 a1 a2 a3 a4) (impl_Translate.f (k + 1) a0 a1 a2 a3 a4) := by
 intro a0 a1 a2 a3 a4 k
 have ih0 := impl_Translate.mono_l k
 unfold impl_Translate.f
 repeat' first
   | (with_reducible exact ih0 _ _ _ _ _ _)
   | (with_reducible exact impl_translate.mono _ _ _ _ _ _)
   | (with_reducible exact LeO.refl _)
   | (with_reducible exact LeO.none _)
   | (with_reducible refine LeO.ite ?_ ?_)
   | (with_reducible refine LeO.bind ?_ (fun _ => ?_))
   | exact ih0 _ _ _ _ _ _
   | exact impl_translate.mono _ _ _ _ _ _
   | exact LeO.none _
   | refine LeO.ite ?_ ?_
   | refine LeO.bind ?_ (fun _ => ?_)
set_option maxHeartbeats 8000000 in
set_option maxRecDepth 100000 in
theorem impl_Translate.calls (k : Nat) (A0 : Option Addr) (c0 : Nat) (l0 : List Int) (a1 : Int) (a2 : Int) (a3 : Int) (a4 : Bool) (r1 : Int) (r2 : Int) (r3 : Int) (r4 : Int) (r5 : Int) (w : World) (hr0 : Kd.C (Kd.int .u8) w A0 l0.length l0) (hc0 : l0.length ≤ c0) (h : impl_Translate.f k l0 a1 a2 a3 a4 = some (r1, r2, r3, r4, r5)) :
  Calls Try.prog 20 #[.slice A0 l0.length c0, .int .i64 a1, .int .u64 a2, .int .i64 a3, .bool a4] w fun e w' => e = .returned (.agg #[.int .i64 r1, .int .i64 r2, .int .i64 r3, .int .i64 r4, .int .u64 r5]) ∧ Below w.heap.size w w' := by
 have hu36 := Try.underlying36
 have HR0 := Aside0.mk hr0
 have HC0 := Aside0.mk hc0
 clear hr0 hc0
 have HB := Aside0.mk (Below.refl w.heap.size w)
 have H : ((impl_memOk.f l0).bind fun t122 => (if t122 = true then (if a3 < 0 then (impl_Translate.j0 k l0 a1 a2 a3 a4 true) else (impl_Translate.j0 k l0 a1 a2 a3 a4 (decide (a3 > 2)))) else (impl_Translate.j0 k l0 a1 a2 a3 a4 true))) = some (r1, r2, r3, r4, r5) := h
 clear h
 have HC6 := Aside0.mk H
 clear H
 go_enter Try.func20, Try.ntmps20
 go_upto_region 1 with (first | ((with_reducible refine gate_dst (N := 10) rfl ?_); refine box_event ?hg (N := 10) ?hd (cs := #[.int .i64 0, .int .i64 0, .int .i64 0, .int .i64 0, .int .u64 0]) (t := 36) ?hr ?_; (case hd => rfl); (case hg => rfl); (case hr => exact Z2_7); intro gb121 hg w7 hbox hb; have n0_ := Aside0.mk (below_step Z2_5 hb); have n1_ := Aside0.mk (hbox); have n2_ := Aside0.mk ((by rw [hg]; exact (below_size Z2_5) : w.heap.size ≤ gb121)); have n3_ := Aside0.mk ((by rw [hg]; exact (below_size Z2_5) : w.heap.size ≤ gb121)); clear HB; have HB := n0_; have BK121 := n1_; have GW121 := n2_; have GE121 := n3_; clear n0_ n1_ n2_ n3_; clear hb hbox hg))
 (try simp only [Act.put, List.setIfInBounds_toArray, List.set_cons_zero, List.set_cons_succ])
 go_cut [21] (fun v21 wc => ∃ (kq : Nat) (x21_5 : Bool), v21 = .bool x21_5 ∧ Aside0 (impl_Translate.j0 kq l0 a1 a2 a3 a4 x21_5 = some (r1, r2, r3, r4, r5)) ∧ Aside0 (kq ≤ k) ∧ Aside0 (wc.heap[gb121]? = some (.cells #[.int .i64 0, .int .i64 0, .int .i64 0, .int .i64 0, .int .u64 0] 36 (0, 0))) ∧ Aside0 (Below w.heap.size w wc))
 case first =>
  have H := HC6.out
  clear HC6
  replace H := Option.bind_eq_some_iff.mp H
  obtain ⟨t122, A80, H⟩ := H
  replace H : (if t122 = true then (if a3 < 0 then (impl_Translate.j0 k l0 a1 a2 a3 a4 true) else (impl_Translate.j0 k l0 a1 a2 a3 a4 (decide (a3 > 2)))) else (impl_Translate.j0 k l0 a1 a2 a3 a4 true)) = some (r1, r2, r3, r4, r5) := H
  have A8 := Aside0.mk A80
  clear A80
  by_cases c9 : t122 = true
  ·subst c9
   have H1 : (if a3 < 0 then (impl_Translate.j0 k l0 a1 a2 a3 a4 true) else (impl_Translate.j0 k l0 a1 a2 a3 a4 (decide (a3 > 2)))) = some (r1, r2, r3, r4, r5) := by rw [if_pos rfl] at H; exact H
   clear H
   have H := H1
   clear H1
   by_cases c10 : a3 < 0
   ·rw [if_pos c10] at H
    have c10b0 : decide (a3 < 0) = true := decide_eq_true c10
    clear c10
    (first | rw [c10b0] | (simp only [i64_w, i32_w]; rw [c10b0]) | skip)
    have H' := Aside0.mk H
    clear H
    go_wp2_with (first | ((with_reducible refine gate_callee (f := 53) rfl ?_); refine goesL_ (some 12) rfl rfl Try.func53 Z2_8 rfl #[.slice A0 l0.length c0] rfl Z2_3 ?_; (with_reducible refine (impl_memOk.calls _ _ l0 true _ ?side1 ?side2 A8.out).mono ?_); (case side1 => exact Z2_2); (case side2 => exact HC0.out); rintro e w' ⟨rfl, ⟨nd, rfl⟩⟩; refine ⟨_, rfl, ?_⟩))
    go_meet
    case rel => exact ⟨_, (true), Z2_10, H', ⟨by first | omega | exact Nat.le_refl _⟩, ⟨Z2_4⟩, ⟨Z2_1⟩⟩
   rw [if_neg c10] at H
   have c10b0 : decide (a3 < 0) = false := decide_eq_false c10
   clear c10
   (first | rw [c10b0] | (simp only [i64_w, i32_w]; rw [c10b0]) | skip)
   have H' := Aside0.mk H
   clear H
   go_wp2_with (first | ((with_reducible refine gate_callee (f := 53) rfl ?_); refine goesL_ (some 12) rfl rfl Try.func53 Z2_8 rfl #[.slice A0 l0.length c0] rfl Z2_3 ?_; (with_reducible refine (impl_memOk.calls _ _ l0 true _ ?side1 ?side2 A8.out).mono ?_); (case side1 => exact Z2_2); (case side2 => exact HC0.out); rintro e w' ⟨rfl, ⟨nd, rfl⟩⟩; refine ⟨_, rfl, ?_⟩))
   go_meet
   case rel => exact ⟨_, (decide (a3 > 2)), Z2_10, H', ⟨by first | omega | exact Nat.le_refl _⟩, ⟨Z2_4⟩, ⟨Z2_1⟩⟩
  replace c9 := Bool.eq_false_iff.mpr c9
  subst c9
  have H1 : (impl_Translate.j0 k l0 a1 a2 a3 a4 true) = some (r1, r2, r3, r4, r5) := by rw [if_neg (show ¬ (false = true) by decide)] at H; exact H
  clear H
  have H := H1
  clear H1
  have H' := Aside0.mk H
  clear H
  go_wp2_with (first | ((with_reducible refine gate_callee (f := 53) rfl ?_); refine goesL_ (some 12) rfl rfl Try.func53 Z2_8 rfl #[.slice A0 l0.length c0] rfl Z2_3 ?_; (with_reducible refine (impl_memOk.calls _ _ l0 false _ ?side1 ?side2 A8.out).mono ?_); (case side1 => exact Z2_2); (case side2 => exact HC0.out); rintro e w' ⟨rfl, ⟨nd, rfl⟩⟩; refine ⟨_, rfl, ?_⟩))
  go_meet
  case rel => exact ⟨_, (true), Z2_10, H', ⟨by first | omega | exact Nat.le_refl _⟩, ⟨Z2_4⟩, ⟨Z2_1⟩⟩
 clear HC6
 try clear c1
 try clear c2
 try clear p2
 try clear c5
 try clear c9
 try clear c10
 try clear c10b0
 obtain ⟨kq, x21_5, rfl, HA, HJ5, BK121, HB⟩ := hcut
 cases kq with
 | zero => exact absurd HA.out (by simp [impl_Translate.j0])
 | succ kj5 =>
  have H := HA.out
  clear HA
  simp only [impl_Translate.j0] at H
  by_cases c11 : x21_5 = true
  ·subst c11
   have H1 : (some (1, 0, 0, 0, 0)) = some (r1, r2, r3, r4, r5) := by rw [if_pos rfl] at H; exact H
   clear H
   have H := H1
   clear H1
   simp only [Option.some.injEq, Prod.mk.injEq] at H
   obtain ⟨rfl, rfl, rfl, rfl, rfl⟩ := H
   have hcz12_0 : wc.cell? ⟨gb121, 0, none⟩ = some (.int .i64 0) := (blk_cell BK121.out 0).trans rfl
   have hcz12_1 : wc.cell? ⟨gb121, 1, none⟩ = some (.int .i64 0) := (blk_cell BK121.out 1).trans rfl
   have hcz12_2 : wc.cell? ⟨gb121, 2, none⟩ = some (.int .i64 0) := (blk_cell BK121.out 2).trans rfl
   have hcz12_3 : wc.cell? ⟨gb121, 3, none⟩ = some (.int .i64 0) := (blk_cell BK121.out 3).trans rfl
   have hcz12_4 : wc.cell? ⟨gb121, 4, none⟩ = some (.int .u64 0) := (blk_cell BK121.out 4).trans rfl
   have hfz12_0 := blk_frozen BK121.out 0
   have hfz12_1 := blk_frozen BK121.out 1
   have hfz12_2 := blk_frozen BK121.out 2
   have hfz12_3 := blk_frozen BK121.out 3
   have hfz12_4 := blk_frozen BK121.out 4
   go_wp2
   refine bodyPost_ret (results_cell_row rfl _ _ gb121 36 #[.int .i64 1, .int .i64 0, .int .i64 0, .int .i64 0, .int .u64 0] (0, 0) _ rfl (by (with_reducible repeat (first | apply blk_drewN | apply blk_drew | apply blk_alloc)); refine blk_put (cs := #[.int .i64 1, .int .i64 0, .int .i64 0, .int .i64 0, .int .u64 0]) ?_ 4 _ rfl; (with_reducible repeat (first | apply blk_drewN | apply blk_drew | apply blk_alloc)); refine blk_put (cs := #[.int .i64 1, .int .i64 0, .int .i64 0, .int .i64 0, .int .u64 0]) ?_ 3 _ rfl; (with_reducible repeat (first | apply blk_drewN | apply blk_drew | apply blk_alloc)); refine blk_put (cs := #[.int .i64 1, .int .i64 0, .int .i64 0, .int .i64 0, .int .u64 0]) ?_ 2 _ rfl; (with_reducible repeat (first | apply blk_drewN | apply blk_drew | apply blk_alloc)); refine blk_put (cs := #[.int .i64 1, .int .i64 0, .int .i64 0, .int .i64 0, .int .u64 0]) ?_ 1 _ rfl; (with_reducible repeat (first | apply blk_drewN | apply blk_drew | apply blk_alloc)); refine blk_put (cs := #[.int .i64 0, .int .i64 0, .int .i64 0, .int .i64 0, .int .u64 0]) ?_ 0 _ rfl; (with_reducible repeat (first | apply blk_drewN | apply blk_drew | apply blk_alloc)); exact BK121.out) Try.underlying36 rfl Z2_8) rfl ?_
   exact ⟨Z2_9, Z2_1⟩
  replace c11 := Bool.eq_false_iff.mpr c11
  subst c11
  have H1 : (if a2 ≥ 8388608 then (some (2, 0, 0, 0, 0)) else ((impl_translate.f kj5 l0 a1 a2 a3 a4).bind fun bt123 => (some (bt123.1, bt123.2.1, bt123.2.2.1, bt123.2.2.2.1, bt123.2.2.2.2)))) = some (r1, r2, r3, r4, r5) := by rw [if_neg (show ¬ (false = true) by decide)] at H; exact H
  clear H
  have H := H1
  clear H1
  by_cases c13 : a2 ≥ 8388608
  ·rw [if_pos c13] at H
   have c13b0 : decide (8388608 ≤ a2) = true := decide_eq_true c13
   clear c13
   simp only [Option.some.injEq, Prod.mk.injEq] at H
   obtain ⟨rfl, rfl, rfl, rfl, rfl⟩ := H
   have hcz14_0 : wc.cell? ⟨gb121, 0, none⟩ = some (.int .i64 0) := (blk_cell BK121.out 0).trans rfl
   have hcz14_1 : wc.cell? ⟨gb121, 1, none⟩ = some (.int .i64 0) := (blk_cell BK121.out 1).trans rfl
   have hcz14_2 : wc.cell? ⟨gb121, 2, none⟩ = some (.int .i64 0) := (blk_cell BK121.out 2).trans rfl
   have hcz14_3 : wc.cell? ⟨gb121, 3, none⟩ = some (.int .i64 0) := (blk_cell BK121.out 3).trans rfl
   have hcz14_4 : wc.cell? ⟨gb121, 4, none⟩ = some (.int .u64 0) := (blk_cell BK121.out 4).trans rfl
   have hfz14_0 := blk_frozen BK121.out 0
   have hfz14_1 := blk_frozen BK121.out 1
   have hfz14_2 := blk_frozen BK121.out 2
   have hfz14_3 := blk_frozen BK121.out 3
   have hfz14_4 := blk_frozen BK121.out 4
   go_wp2
   refine bodyPost_ret (results_cell_row rfl _ _ gb121 36 #[.int .i64 2, .int .i64 0, .int .i64 0, .int .i64 0, .int .u64 0] (0, 0) _ rfl (by (with_reducible repeat (first | apply blk_drewN | apply blk_drew | apply blk_alloc)); refine blk_put (cs := #[.int .i64 2, .int .i64 0, .int .i64 0, .int .i64 0, .int .u64 0]) ?_ 4 _ rfl; (with_reducible repeat (first | apply blk_drewN | apply blk_drew | apply blk_alloc)); refine blk_put (cs := #[.int .i64 2, .int .i64 0, .int .i64 0, .int .i64 0, .int .u64 0]) ?_ 3 _ rfl; (with_reducible repeat (first | apply blk_drewN | apply blk_drew | apply blk_alloc)); refine blk_put (cs := #[.int .i64 2, .int .i64 0, .int .i64 0, .int .i64 0, .int .u64 0]) ?_ 2 _ rfl; (with_reducible repeat (first | apply blk_drewN | apply blk_drew | apply blk_alloc)); refine blk_put (cs := #[.int .i64 2, .int .i64 0, .int .i64 0, .int .i64 0, .int .u64 0]) ?_ 1 _ rfl; (with_reducible repeat (first | apply blk_drewN | apply blk_drew | apply blk_alloc)); refine blk_put (cs := #[.int .i64 0, .int .i64 0, .int .i64 0, .int .i64 0, .int .u64 0]) ?_ 0 _ rfl; (with_reducible repeat (first | apply blk_drewN | apply blk_drew | apply blk_alloc)); exact BK121.out) Try.underlying36 rfl Z2_8) rfl ?_
   exact ⟨Z2_9, Z2_1⟩
  rw [if_neg c13] at H
  have c13b0 : decide (8388608 ≤ a2) = false := decide_eq_false c13
  clear c13
  replace H := Option.bind_eq_some_iff.mp H
  obtain ⟨⟨t123, t124, t125, t126, t127⟩, A150, H⟩ := H
  replace H : (some (t123, t124, t125, t126, t127)) = some (r1, r2, r3, r4, r5) := H
  have A15 := Aside0.mk A150
  clear A150
  simp only [Option.some.injEq, Prod.mk.injEq] at H
  obtain ⟨rfl, rfl, rfl, rfl, rfl⟩ := H
  go_wp2_with (first | ((with_reducible refine gate_callee (f := 54) rfl ?_); refine goesL_ (some 31) rfl rfl Try.func54 Z2_8 rfl #[.slice A0 l0.length c0, .int .i64 a1, .int .u64 a2, .int .i64 a3, .bool a4] rfl Z2_3 ?_; (with_reducible refine (impl_translate.calls kj5 _ _ l0 a1 a2 a3 a4 t123 t124 t125 t126 t127 _ ?side1 ?side2 A15.out).mono ?_); (case side1 => exact Z2_2); (case side2 => exact HC0.out); rintro e w16 ⟨rfl, hb⟩; refine ⟨_, rfl, ?_⟩; have n0_ := Aside0.mk (blk_below (g := gb121) (o := .cells #[.int .i64 0, .int .i64 0, .int .i64 0, .int .i64 0, .int .u64 0] 36 (0, 0)) Z2_4 hb); have n1_ := Aside0.mk (below_step Z2_1 hb); clear BK121; clear HB; have BK121 := n0_; have HB := n1_; clear n0_ n1_; (try clear hb); (try clear hb2); (try clear hk); (try clear hi); have hcz17_0 : w16.cell? ⟨gb121, 0, none⟩ = some (.int .i64 0) := (blk_cell BK121.out 0).trans rfl; have hcz17_1 : w16.cell? ⟨gb121, 1, none⟩ = some (.int .i64 0) := (blk_cell BK121.out 1).trans rfl; have hcz17_2 : w16.cell? ⟨gb121, 2, none⟩ = some (.int .i64 0) := (blk_cell BK121.out 2).trans rfl; have hcz17_3 : w16.cell? ⟨gb121, 3, none⟩ = some (.int .i64 0) := (blk_cell BK121.out 3).trans rfl; have hcz17_4 : w16.cell? ⟨gb121, 4, none⟩ = some (.int .u64 0) := (blk_cell BK121.out 4).trans rfl; have hfz17_0 := blk_frozen BK121.out 0; have hfz17_1 := blk_frozen BK121.out 1; have hfz17_2 := blk_frozen BK121.out 2; have hfz17_3 := blk_frozen BK121.out 3; have hfz17_4 := blk_frozen BK121.out 4))
  refine bodyPost_ret (results_cell_row rfl _ _ gb121 36 #[.int .i64 t123, .int .i64 t124, .int .i64 t125, .int .i64 t126, .int .u64 t127] (0, 0) _ rfl (by (with_reducible repeat (first | apply blk_drewN | apply blk_drew | apply blk_alloc)); refine blk_put (cs := #[.int .i64 t123, .int .i64 t124, .int .i64 t125, .int .i64 t126, .int .u64 0]) ?_ 4 _ rfl; (with_reducible repeat (first | apply blk_drewN | apply blk_drew | apply blk_alloc)); refine blk_put (cs := #[.int .i64 t123, .int .i64 t124, .int .i64 t125, .int .i64 0, .int .u64 0]) ?_ 3 _ rfl; (with_reducible repeat (first | apply blk_drewN | apply blk_drew | apply blk_alloc)); refine blk_put (cs := #[.int .i64 t123, .int .i64 t124, .int .i64 0, .int .i64 0, .int .u64 0]) ?_ 2 _ rfl; (with_reducible repeat (first | apply blk_drewN | apply blk_drew | apply blk_alloc)); refine blk_put (cs := #[.int .i64 t123, .int .i64 0, .int .i64 0, .int .i64 0, .int .u64 0]) ?_ 1 _ rfl; (with_reducible repeat (first | apply blk_drewN | apply blk_drew | apply blk_alloc)); refine blk_put (cs := #[.int .i64 0, .int .i64 0, .int .i64 0, .int .i64 0, .int .u64 0]) ?_ 0 _ rfl; (with_reducible repeat (first | apply blk_drewN | apply blk_drew | apply blk_alloc)); exact BK121.out) Try.underlying36 rfl Z2_8) rfl ?_
  exact ⟨Z2_9, Z2_1⟩
end Go.Proofs.Ytdhafphhkokniaa.PFnLeavesFound
