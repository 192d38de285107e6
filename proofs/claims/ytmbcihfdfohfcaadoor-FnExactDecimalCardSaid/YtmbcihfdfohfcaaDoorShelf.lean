/- The contract of the library's FormatInt at base 10, laid at this translation. -/
import Derived.Shelf.Strconv.Itoa0
import Derived.Shelf.Strconv.Itoa1
import Derived.Shelf.LaysM
import Derived.Shelf.Strconv.Itoa2
import Derived.Shelf.Strconv.Itoa3
import Derived.Test.YtmbcihfdfohfcaaDoorProg
namespace Go.Proofs
open Go.Shelf
def Tryd.laysM246_ren : Go.Shelf.Ren := ⟨fun | 246 => 8 | 283 => 9 | 284 => 10 | 285 => 11 | 286 => 12 | 129 => 14 | 317 => 13 | 318 => 15 | 319 => 16 | 320 => 17 | 337 => 18 | 338 => 19 | n => n, fun | 2 => 2 | 3 => 3 | 9 => 9 | 4 => 4 | 171 => 29 | 0 => 0 | 53 => 25 | 37 => 27 | 5 => 5 | 173 => 32 | 212 => 36 | 51 => 37 | 20 => 20 | 213 => 38 | 46 => 40 | 232 => 43 | 233 => 44 | n => n, fun | 17 => 0 | 18 => 1 | 19 => 2 | n => n⟩
theorem Tryd.laysM246 : Go.Proofs.LaysM.n246 Tryd.prog Tryd.laysM246_ren := {
  mixed := by kernel_rfl
  f129 := Tryd.func14.trans (congrArg some (by kernel_rfl))
  f246 := Tryd.func8.trans (congrArg some (by kernel_rfl))
  f283 := Tryd.func9.trans (congrArg some (by kernel_rfl))
  f284 := Tryd.func10.trans (congrArg some (by kernel_rfl))
  f285 := Tryd.func11.trans (congrArg some (by kernel_rfl))
  f286 := Tryd.func12.trans (congrArg some (by kernel_rfl))
  f317 := Tryd.func13.trans (congrArg some (by kernel_rfl))
  f318 := Tryd.func15.trans (congrArg some (by kernel_rfl))
  f319 := Tryd.func16.trans (congrArg some (by kernel_rfl))
  f320 := Tryd.func17.trans (congrArg some (by kernel_rfl))
  f337 := Tryd.func18.trans (congrArg some (by kernel_rfl))
  f338 := Tryd.func19.trans (congrArg some (by kernel_rfl))
  t0 := Tryd.underlying0
  a0 := Tryd.isAgg0
  z0 := Tryd.sizeOf0
  v0 := Tryd.zeroValue0
  t2 := Tryd.underlying2
  a2 := Tryd.isAgg2
  z2 := Tryd.sizeOf2
  v2 := Tryd.zeroValue2
  t3 := Tryd.underlying3
  a3 := Tryd.isAgg3
  z3 := Tryd.sizeOf3
  v3 := Tryd.zeroValue3
  t4 := Tryd.underlying4
  a4 := Tryd.isAgg4
  z4 := Tryd.sizeOf4
  v4 := Tryd.zeroValue4
  t5 := Tryd.underlying5
  a5 := Tryd.isAgg5
  z5 := Tryd.sizeOf5
  v5 := Tryd.zeroValue5
  t9 := Tryd.underlying9
  a9 := Tryd.isAgg9
  z9 := Tryd.sizeOf9
  v9 := Tryd.zeroValue9
  t20 := Tryd.underlying20
  a20 := Tryd.isAgg20
  z20 := Tryd.sizeOf20
  v20 := Tryd.zeroValue20
  t37 := Tryd.underlying27
  a37 := Tryd.isAgg27
  z37 := Tryd.sizeOf27
  v37 := Tryd.zeroValue27
  t46 := Tryd.underlying40
  a46 := Tryd.isAgg40
  z46 := Tryd.sizeOf40
  v46 := Tryd.zeroValue40
  t51 := Tryd.underlying37
  a51 := Tryd.isAgg37
  z51 := Tryd.sizeOf37
  v51 := Tryd.zeroValue37
  t53 := Tryd.underlying25
  a53 := Tryd.isAgg25
  z53 := Tryd.sizeOf25
  v53 := Tryd.zeroValue25
  t171 := Tryd.underlying29
  a171 := Tryd.isAgg29
  z171 := Tryd.sizeOf29
  v171 := Tryd.zeroValue29
  t173 := Tryd.underlying32
  a173 := Tryd.isAgg32
  z173 := Tryd.sizeOf32
  v173 := Tryd.zeroValue32
  t212 := Tryd.underlying36
  a212 := Tryd.isAgg36
  z212 := Tryd.sizeOf36
  v212 := Tryd.zeroValue36
  t213 := Tryd.underlying38
  a213 := Tryd.isAgg38
  z213 := Tryd.sizeOf38
  t232 := Tryd.underlying43
  a232 := Tryd.isAgg43
  z232 := Tryd.sizeOf43
  v232 := Tryd.zeroValue43
  t233 := Tryd.underlying44
  a233 := Tryd.isAgg44
  z233 := Tryd.sizeOf44
  v233 := Tryd.zeroValue44
  g17 := by kernel_rfl
  g18 := by kernel_rfl
  g19 := by kernel_rfl
  i0 := by kernel_rfl
  i2 := by kernel_rfl
  i3 := by kernel_rfl
  i4 := by kernel_rfl
  i5 := by kernel_rfl
  i9 := by kernel_rfl
  i20 := by kernel_rfl
  i37 := by kernel_rfl
  i46 := by kernel_rfl
  i51 := by kernel_rfl
  i53 := by kernel_rfl
  i171 := by kernel_rfl
  i173 := by kernel_rfl
  i212 := by kernel_rfl
  i232 := by kernel_rfl
  i233 := by kernel_rfl
  m17 := by kernel_rfl
  m18 := by kernel_rfl
  m19 := by kernel_rfl }
open Go.RowKit Go.Sort Go.Lib in
/-- internal/strconv.FormatInt: "FormatInt returns the string representation of i in the given base": AT BASE 10: i's decimal numeral, for every int64. The world behind the call: the world before it, new blocks behind the heap, draws. (LAID: no walk: one application.) -/
theorem Tryd.internal_strconv_FormatInt_10 (n : Int) (h0 : -9223372036854775808 ≤ n) (h1 : n ≤ 9223372036854775807) (w : World) (htab : Lib.TabIs Tryd.prog w "internal/strconv.uint64pow10" .u64 Lib.pow10Tab) :
    Calls Tryd.prog 8 #[.int .i64 n, .int .i64 10] w fun e w' => e = .returned (.string ⟨(Lib.itoa n).toArray⟩) ∧ ∃ k os, w' = grow (w.drewN k) os := Any.internal_strconv_FormatInt_10 Tryd.laysM246 n h0 h1 w htab
end Go.Proofs
