/-
  DERIVED: THE SHELF's CONTRACTS AT THIS DUMP, IN PLAIN WORDS (tools/lay-plain.mjs out of 'TryzShelf.lean', which tools/lay-shelf.mjs wrote): THE SAME DECLARATIONS UNDER THE SAME NAMES: 'import', 'namespace', 'open', 'def', 'theorem' AND NOTHING ELSE: no command of the shelf's: FOR A HAND-IN. Each laying: the table of numbers ('.._ren') and one theorem, a field a fact of the dump's own or the kernel's comparison; each contract: ONE APPLICATION.
-/
import Derived.Shelf.Strings.Trim
import Derived.Shelf.Small.Utf8
import Derived.Shelf.Small.Strs
import Derived.Shelf.Strconv.Itoa0
import Derived.Shelf.Strconv.Itoa1
import Derived.Shelf.LaysM
import Derived.Shelf.Strconv.Itoa2
import Derived.Shelf.Strconv.Itoa3
import Derived.Shelf.Strings.Search1
import Derived.Shelf.Strings.Runes
import Derived.Shelf.Strings.AsciiSet
import Derived.Shelf.Unicode.DecodeSlow
import Derived.Ground.NamesProg
import Derived.Shelf.Strings.SlTrimAscii
import Derived.Test.YtgmbfohkpfineaaGreatDoorProg
namespace Go.Proofs
open Go.Shelf
def Tryz.lays160_ren : Go.Shelf.Ren := ⟨fun | 160 => 184 | 232 => 251 | 231 => 250 | 227 => 252 | 234 => 254 | 233 => 253 | 236 => 256 | 235 => 255 | 228 => 296 | 271 => 299 | 151 => 298 | 197 => 297 | 120 => 317 | 152 => 316 | 260 => 315 | 137 => 337 | 119 => 338 | 224 => 339 | 225 => 340 | 217 => 353 | 266 => 361 | n => n, fun | 9 => 9 | 4 => 4 | 3 => 3 | 5 => 5 | 117 => 292 | 116 => 291 | 0 => 0 | 124 => 295 | 21 => 21 | 105 => 328 | 46 => 351 | 119 => 359 | 139 => 362 | 138 => 361 | n => n, fun | 3 => 0 | 4 => 1 | n => n⟩
theorem Tryz.lays160 : Go.Proofs.Lays.n160 Tryz.prog Tryz.lays160_ren := {
  mixed := by kernel_rfl
  f119 := Tryz.func338.trans (congrArg some (by kernel_rfl))
  f120 := Tryz.func317.trans (congrArg some (by kernel_rfl))
  f137 := Tryz.func337.trans (congrArg some (by kernel_rfl))
  f151 := Tryz.func298.trans (congrArg some (by kernel_rfl))
  f152 := Tryz.func316.trans (congrArg some (by kernel_rfl))
  f160 := Tryz.func184.trans (congrArg some (by kernel_rfl))
  f197 := Tryz.func297.trans (congrArg some (by kernel_rfl))
  f217 := Tryz.func353.trans (congrArg some (by kernel_rfl))
  f224 := Tryz.func339.trans (congrArg some (by kernel_rfl))
  f225 := Tryz.func340.trans (congrArg some (by kernel_rfl))
  f227 := Tryz.func252.trans (congrArg some (by kernel_rfl))
  f228 := Tryz.func296.trans (congrArg some (by kernel_rfl))
  f231 := Tryz.func250.trans (congrArg some (by kernel_rfl))
  f232 := Tryz.func251.trans (congrArg some (by kernel_rfl))
  f233 := Tryz.func253.trans (congrArg some (by kernel_rfl))
  f234 := Tryz.func254.trans (congrArg some (by kernel_rfl))
  f235 := Tryz.func255.trans (congrArg some (by kernel_rfl))
  f236 := Tryz.func256.trans (congrArg some (by kernel_rfl))
  f260 := Tryz.func315.trans (congrArg some (by kernel_rfl))
  f266 := Tryz.func361.trans (congrArg some (by kernel_rfl))
  f271 := Tryz.func299.trans (congrArg some (by kernel_rfl))
  t0 := Tryz.underlying0
  a0 := Tryz.isAgg0
  z0 := Tryz.sizeOf0
  v0 := Tryz.zeroValue0
  t3 := Tryz.underlying3
  a3 := Tryz.isAgg3
  z3 := Tryz.sizeOf3
  v3 := Tryz.zeroValue3
  t4 := Tryz.underlying4
  a4 := Tryz.isAgg4
  z4 := Tryz.sizeOf4
  v4 := Tryz.zeroValue4
  t5 := Tryz.underlying5
  a5 := Tryz.isAgg5
  z5 := Tryz.sizeOf5
  v5 := Tryz.zeroValue5
  t9 := Tryz.underlying9
  a9 := Tryz.isAgg9
  z9 := Tryz.sizeOf9
  v9 := Tryz.zeroValue9
  t21 := Tryz.underlying21
  a21 := Tryz.isAgg21
  z21 := Tryz.sizeOf21
  v21 := Tryz.zeroValue21
  t46 := Tryz.underlying351
  a46 := Tryz.isAgg351
  z46 := Tryz.sizeOf351
  v46 := Tryz.zeroValue351
  t105 := Tryz.underlying328
  a105 := Tryz.isAgg328
  z105 := Tryz.sizeOf328
  v105 := Tryz.zeroValue328
  t116 := Tryz.underlying291
  a116 := Tryz.isAgg291
  z116 := Tryz.sizeOf291
  t117 := Tryz.underlying292
  a117 := Tryz.isAgg292
  z117 := Tryz.sizeOf292
  v117 := Tryz.zeroValue292
  t119 := Tryz.underlying359
  a119 := Tryz.isAgg359
  z119 := Tryz.sizeOf359
  t124 := Tryz.underlying295
  a124 := Tryz.isAgg295
  z124 := Tryz.sizeOf295
  v124 := Tryz.zeroValue295
  t138 := Tryz.underlying361
  a138 := Tryz.isAgg361
  z138 := Tryz.sizeOf361
  v138 := Tryz.zeroValue361
  t139 := Tryz.underlying362
  a139 := Tryz.isAgg362
  z139 := Tryz.sizeOf362
  v139 := Tryz.zeroValue362
  g3 := by kernel_rfl
  g4 := by kernel_rfl }
open Go.RowKit in
theorem Tryz.strings_Trim_ascii (s cutset : ByteArray) (w : World) (hs : s.size ≤ 9223372036854775807) (hcs : cutset.size < 4294967281) (hascii : ∀ (j : Nat) b, cutset.data.toList[j]? = some b → b.toNat < 128) :
    Calls Tryz.prog 184 #[.string s, .string cutset] w fun e w' => e = .returned (.string ⟨(Lib.trimS s.data.toList cutset.data.toList).toArray⟩) ∧ Below w.heap.size w w' := Any.strings_Trim_laid Tryz.lays160 (by kernel_rfl) s cutset w hs hcs hascii
def Tryz.laysM171_ren : Go.Shelf.Ren := ⟨fun | 171 => 211 | 243 => 278 | 246 => 312 | 283 => 333 | 284 => 334 | 285 => 335 | 286 => 336 | 129 => 349 | 317 => 348 | 318 => 350 | 319 => 351 | 320 => 352 | 337 => 359 | 338 => 360 | n => n, fun | 3 => 3 | 9 => 9 | 2 => 2 | 4 => 4 | 171 => 353 | 0 => 0 | 53 => 354 | 37 => 174 | 5 => 5 | 173 => 357 | 212 => 370 | 51 => 371 | 20 => 20 | 213 => 372 | 46 => 351 | 232 => 380 | 233 => 381 | n => n, fun | 17 => 2 | 18 => 4 | 19 => 5 | n => n⟩
theorem Tryz.laysM171 : Go.Proofs.LaysM.n171 Tryz.prog Tryz.laysM171_ren := {
  mixed := by kernel_rfl
  f129 := Tryz.func349.trans (congrArg some (by kernel_rfl))
  f171 := Tryz.func211.trans (congrArg some (by kernel_rfl))
  f243 := Tryz.func278.trans (congrArg some (by kernel_rfl))
  f246 := Tryz.func312.trans (congrArg some (by kernel_rfl))
  f283 := Tryz.func333.trans (congrArg some (by kernel_rfl))
  f284 := Tryz.func334.trans (congrArg some (by kernel_rfl))
  f285 := Tryz.func335.trans (congrArg some (by kernel_rfl))
  f286 := Tryz.func336.trans (congrArg some (by kernel_rfl))
  f317 := Tryz.func348.trans (congrArg some (by kernel_rfl))
  f318 := Tryz.func350.trans (congrArg some (by kernel_rfl))
  f319 := Tryz.func351.trans (congrArg some (by kernel_rfl))
  f320 := Tryz.func352.trans (congrArg some (by kernel_rfl))
  f337 := Tryz.func359.trans (congrArg some (by kernel_rfl))
  f338 := Tryz.func360.trans (congrArg some (by kernel_rfl))
  t0 := Tryz.underlying0
  a0 := Tryz.isAgg0
  z0 := Tryz.sizeOf0
  v0 := Tryz.zeroValue0
  t2 := Tryz.underlying2
  a2 := Tryz.isAgg2
  z2 := Tryz.sizeOf2
  v2 := Tryz.zeroValue2
  t3 := Tryz.underlying3
  a3 := Tryz.isAgg3
  z3 := Tryz.sizeOf3
  v3 := Tryz.zeroValue3
  t4 := Tryz.underlying4
  a4 := Tryz.isAgg4
  z4 := Tryz.sizeOf4
  v4 := Tryz.zeroValue4
  t5 := Tryz.underlying5
  a5 := Tryz.isAgg5
  z5 := Tryz.sizeOf5
  v5 := Tryz.zeroValue5
  t9 := Tryz.underlying9
  a9 := Tryz.isAgg9
  z9 := Tryz.sizeOf9
  v9 := Tryz.zeroValue9
  t20 := Tryz.underlying20
  a20 := Tryz.isAgg20
  z20 := Tryz.sizeOf20
  v20 := Tryz.zeroValue20
  t37 := Tryz.underlying174
  a37 := Tryz.isAgg174
  z37 := Tryz.sizeOf174
  v37 := Tryz.zeroValue174
  t46 := Tryz.underlying351
  a46 := Tryz.isAgg351
  z46 := Tryz.sizeOf351
  v46 := Tryz.zeroValue351
  t51 := Tryz.underlying371
  a51 := Tryz.isAgg371
  z51 := Tryz.sizeOf371
  v51 := Tryz.zeroValue371
  t53 := Tryz.underlying354
  a53 := Tryz.isAgg354
  z53 := Tryz.sizeOf354
  v53 := Tryz.zeroValue354
  t171 := Tryz.underlying353
  a171 := Tryz.isAgg353
  z171 := Tryz.sizeOf353
  v171 := Tryz.zeroValue353
  t173 := Tryz.underlying357
  a173 := Tryz.isAgg357
  z173 := Tryz.sizeOf357
  v173 := Tryz.zeroValue357
  t212 := Tryz.underlying370
  a212 := Tryz.isAgg370
  z212 := Tryz.sizeOf370
  v212 := Tryz.zeroValue370
  t213 := Tryz.underlying372
  a213 := Tryz.isAgg372
  z213 := Tryz.sizeOf372
  t232 := Tryz.underlying380
  a232 := Tryz.isAgg380
  z232 := Tryz.sizeOf380
  v232 := Tryz.zeroValue380
  t233 := Tryz.underlying381
  a233 := Tryz.isAgg381
  z233 := Tryz.sizeOf381
  v233 := Tryz.zeroValue381
  g17 := by kernel_rfl
  g18 := by kernel_rfl
  g19 := by kernel_rfl
  i0 := by kernel_rfl
  i2 := by kernel_rfl
  i3 := by kernel_rfl
  i4 := by kernel_rfl
  i5 := by kernel_rfl
  i9 := by kernel_rfl
  i20 := by kernel_rfl
  i37 := by kernel_rfl
  i46 := by kernel_rfl
  i51 := by kernel_rfl
  i53 := by kernel_rfl
  i171 := by kernel_rfl
  i173 := by kernel_rfl
  i212 := by kernel_rfl
  i232 := by kernel_rfl
  i233 := by kernel_rfl
  m17 := by kernel_rfl
  m18 := by kernel_rfl
  m19 := by kernel_rfl }
open Go.RowKit Go.Sort Go.Lib in
/-- strconv.Itoa: "Itoa is equivalent to FormatInt(int64(i), 10).": i's DECIMAL NUMERAL ('Lib.itoa': a '-' where i is negative, then the digits), FOR EVERY int. The world behind the call: the world before it, new blocks behind the heap (the library's 'var a [24]byte'), draws. (LAID: no walk: one application.) -/
theorem Tryz.strconv_Itoa (n : Int) (h0 : -9223372036854775808 ≤ n) (h1 : n ≤ 9223372036854775807) (w : World) (htab : Lib.TabIs Tryz.prog w "internal/strconv.uint64pow10" .u64 Lib.pow10Tab) :
    Calls Tryz.prog 211 #[.int .i64 n] w fun e w' => e = .returned (.string ⟨(Lib.itoa n).toArray⟩) ∧ ∃ k os, w' = grow (w.drewN k) os := Any.strconv_Itoa Tryz.laysM171 n h0 h1 w htab
end Go.Proofs
