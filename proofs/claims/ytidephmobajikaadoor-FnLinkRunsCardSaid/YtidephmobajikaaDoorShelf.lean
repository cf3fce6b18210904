/-
  DERIVED: THE SHELF's CONTRACTS AT THIS DUMP, IN PLAIN WORDS (tools/lay-plain.mjs out of 'TrydShelf.lean', which tools/lay-shelf.mjs wrote): THE SAME DECLARATIONS UNDER THE SAME NAMES: 'import', 'namespace', 'open', 'def', 'theorem' AND NOTHING ELSE: no command of the shelf's: FOR A HAND-IN. Each laying: the table of numbers ('.._ren') and one theorem, a field a fact of the dump's own or the kernel's comparison; each contract: ONE APPLICATION.
-/
import Derived.Shelf.Strings.Trim
import Derived.Shelf.Small.Utf8
import Derived.Shelf.Small.Strs
import Derived.Shelf.Utf8.RuneCount
import Derived.Shelf.Strings.Search1
import Derived.Shelf.Strings.Search2
import Derived.Shelf.Strings.Search3
import Derived.Shelf.Strings.Count
import Derived.Shelf.LaysM
import Derived.Shelf.Strings.Shaped
import Derived.Shelf.Strings.Split
import Derived.Shelf.Unicode.Decode
import Derived.Shelf.Strings.Runes
import Derived.Shelf.Strings.RuneCount
import Derived.Shelf.Strings.AsciiSet
import Derived.Shelf.Unicode.DecodeSlow
import Derived.Shelf.Unicode.DecodeAny
import Derived.Shelf.Unicode.DecodeLast
import Derived.Ground.Names2Prog
import Derived.Shelf.Slices.ReverseS
import Derived.Shelf.Slices.Clone
import Derived.Shelf.Slices.Delete
import Derived.Shelf.Slices.Cells
import Derived.Shelf.Slices.Empties
import Derived.Ground.SlgnProg
import Derived.Shelf.SlicesE.Clone
import Derived.Ground.NamesProg
import Derived.Shelf.Strings.SlTrimAscii
import Derived.Shelf.Spec.SlicesInsert
import Derived.Shelf.Spec.SlicesInsertGrow
import Derived.Test.YtidephmobajikaaDoorProg
namespace Go.Proofs
open Go.Shelf
def Tryd.lays160_ren : Go.Shelf.Ren := ⟨fun | 160 => 149 | 232 => 190 | 231 => 189 | 227 => 191 | 234 => 193 | 233 => 192 | 236 => 195 | 235 => 194 | 228 => 215 | 271 => 218 | 151 => 217 | 197 => 216 | 120 => 224 | 152 => 223 | 260 => 222 | 137 => 230 | 119 => 231 | 224 => 227 | 225 => 226 | 217 => 225 | 266 => 232 | n => n, fun | 9 => 9 | 4 => 4 | 3 => 3 | 5 => 5 | 117 => 189 | 116 => 188 | 0 => 0 | 124 => 192 | 21 => 21 | 105 => 208 | 46 => 211 | 119 => 215 | 139 => 218 | 138 => 217 | n => n, fun | 3 => 1 | 4 => 2 | n => n⟩
theorem Tryd.lays160 : Go.Proofs.Lays.n160 Tryd.prog Tryd.lays160_ren := {
  mixed := by kernel_rfl
  f119 := Tryd.func231.trans (congrArg some (by kernel_rfl))
  f120 := Tryd.func224.trans (congrArg some (by kernel_rfl))
  f137 := Tryd.func230.trans (congrArg some (by kernel_rfl))
  f151 := Tryd.func217.trans (congrArg some (by kernel_rfl))
  f152 := Tryd.func223.trans (congrArg some (by kernel_rfl))
  f160 := Tryd.func149.trans (congrArg some (by kernel_rfl))
  f197 := Tryd.func216.trans (congrArg some (by kernel_rfl))
  f217 := Tryd.func225.trans (congrArg some (by kernel_rfl))
  f224 := Tryd.func227.trans (congrArg some (by kernel_rfl))
  f225 := Tryd.func226.trans (congrArg some (by kernel_rfl))
  f227 := Tryd.func191.trans (congrArg some (by kernel_rfl))
  f228 := Tryd.func215.trans (congrArg some (by kernel_rfl))
  f231 := Tryd.func189.trans (congrArg some (by kernel_rfl))
  f232 := Tryd.func190.trans (congrArg some (by kernel_rfl))
  f233 := Tryd.func192.trans (congrArg some (by kernel_rfl))
  f234 := Tryd.func193.trans (congrArg some (by kernel_rfl))
  f235 := Tryd.func194.trans (congrArg some (by kernel_rfl))
  f236 := Tryd.func195.trans (congrArg some (by kernel_rfl))
  f260 := Tryd.func222.trans (congrArg some (by kernel_rfl))
  f266 := Tryd.func232.trans (congrArg some (by kernel_rfl))
  f271 := Tryd.func218.trans (congrArg some (by kernel_rfl))
  t0 := Tryd.underlying0
  a0 := Tryd.isAgg0
  z0 := Tryd.sizeOf0
  v0 := Tryd.zeroValue0
  t3 := Tryd.underlying3
  a3 := Tryd.isAgg3
  z3 := Tryd.sizeOf3
  v3 := Tryd.zeroValue3
  t4 := Tryd.underlying4
  a4 := Tryd.isAgg4
  z4 := Tryd.sizeOf4
  v4 := Tryd.zeroValue4
  t5 := Tryd.underlying5
  a5 := Tryd.isAgg5
  z5 := Tryd.sizeOf5
  v5 := Tryd.zeroValue5
  t9 := Tryd.underlying9
  a9 := Tryd.isAgg9
  z9 := Tryd.sizeOf9
  v9 := Tryd.zeroValue9
  t21 := Tryd.underlying21
  a21 := Tryd.isAgg21
  z21 := Tryd.sizeOf21
  v21 := Tryd.zeroValue21
  t46 := Tryd.underlying211
  a46 := Tryd.isAgg211
  z46 := Tryd.sizeOf211
  v46 := Tryd.zeroValue211
  t105 := Tryd.underlying208
  a105 := Tryd.isAgg208
  z105 := Tryd.sizeOf208
  v105 := Tryd.zeroValue208
  t116 := Tryd.underlying188
  a116 := Tryd.isAgg188
  z116 := Tryd.sizeOf188
  t117 := Tryd.underlying189
  a117 := Tryd.isAgg189
  z117 := Tryd.sizeOf189
  v117 := Tryd.zeroValue189
  t119 := Tryd.underlying215
  a119 := Tryd.isAgg215
  z119 := Tryd.sizeOf215
  t124 := Tryd.underlying192
  a124 := Tryd.isAgg192
  z124 := Tryd.sizeOf192
  v124 := Tryd.zeroValue192
  t138 := Tryd.underlying217
  a138 := Tryd.isAgg217
  z138 := Tryd.sizeOf217
  v138 := Tryd.zeroValue217
  t139 := Tryd.underlying218
  a139 := Tryd.isAgg218
  z139 := Tryd.sizeOf218
  v139 := Tryd.zeroValue218
  g3 := by kernel_rfl
  g4 := by kernel_rfl }
def Tryd.laysNm224_ren : Go.Shelf.Ren := ⟨fun | 24 => 151 | n => n, fun | 24 => 24 | 9 => 9 | 3 => 3 | 4 => 4 | 0 => 0 | n => n, fun | n => n⟩
theorem Tryd.laysNm224 : Go.Proofs.Lays2.n24 Tryd.prog Tryd.laysNm224_ren := {
  mixed := by kernel_rfl
  f24 := Tryd.func151.trans (congrArg some (by kernel_rfl))
  t0 := Tryd.underlying0
  a0 := Tryd.isAgg0
  z0 := Tryd.sizeOf0
  v0 := Tryd.zeroValue0
  t3 := Tryd.underlying3
  a3 := Tryd.isAgg3
  z3 := Tryd.sizeOf3
  v3 := Tryd.zeroValue3
  t4 := Tryd.underlying4
  a4 := Tryd.isAgg4
  z4 := Tryd.sizeOf4
  v4 := Tryd.zeroValue4
  t9 := Tryd.underlying9
  a9 := Tryd.isAgg9
  z9 := Tryd.sizeOf9
  v9 := Tryd.zeroValue9
  t24 := Tryd.underlying24
  a24 := Tryd.isAgg24
  z24 := Tryd.sizeOf24
  v24 := Tryd.zeroValue24
  i9 := by kernel_rfl }
def Tryd.laysNm222_ren : Go.Shelf.Ren := ⟨fun | 22 => 187 | 29 => 213 | 30 => 214 | 36 => 221 | 17 => 229 | n => n, fun | 24 => 24 | 9 => 9 | 3 => 3 | 4 => 4 | 0 => 0 | n => n, fun | n => n⟩
theorem Tryd.laysNm222 : Go.Proofs.Lays2.n22 Tryd.prog Tryd.laysNm222_ren := {
  mixed := by kernel_rfl
  f17 := Tryd.func229.trans (congrArg some (by kernel_rfl))
  f22 := Tryd.func187.trans (congrArg some (by kernel_rfl))
  f29 := Tryd.func213.trans (congrArg some (by kernel_rfl))
  f30 := Tryd.func214.trans (congrArg some (by kernel_rfl))
  f36 := Tryd.func221.trans (congrArg some (by kernel_rfl))
  t0 := Tryd.underlying0
  a0 := Tryd.isAgg0
  z0 := Tryd.sizeOf0
  v0 := Tryd.zeroValue0
  t3 := Tryd.underlying3
  a3 := Tryd.isAgg3
  z3 := Tryd.sizeOf3
  v3 := Tryd.zeroValue3
  t4 := Tryd.underlying4
  a4 := Tryd.isAgg4
  z4 := Tryd.sizeOf4
  v4 := Tryd.zeroValue4
  t9 := Tryd.underlying9
  a9 := Tryd.isAgg9
  z9 := Tryd.sizeOf9
  v9 := Tryd.zeroValue9
  t24 := Tryd.underlying24
  a24 := Tryd.isAgg24
  z24 := Tryd.sizeOf24
  v24 := Tryd.zeroValue24
  i9 := by kernel_rfl }
def Tryd.lays138_ren : Go.Shelf.Ren := ⟨fun | 138 => 171 | 195 => 210 | 218 => 211 | 143 => 212 | 219 => 220 | 217 => 225 | 225 => 226 | 224 => 227 | 267 => 228 | 266 => 232 | 314 => 233 | n => n, fun | 9 => 9 | 3 => 3 | 4 => 4 | 5 => 5 | 0 => 0 | 46 => 211 | 146 => 221 | 51 => 220 | n => n, fun | 1 => 0 | n => n⟩
theorem Tryd.lays138 : Go.Proofs.Lays.n138 Tryd.prog Tryd.lays138_ren := {
  mixed := by kernel_rfl
  f138 := Tryd.func171.trans (congrArg some (by kernel_rfl))
  f143 := Tryd.func212.trans (congrArg some (by kernel_rfl))
  f195 := Tryd.func210.trans (congrArg some (by kernel_rfl))
  f217 := Tryd.func225.trans (congrArg some (by kernel_rfl))
  f218 := Tryd.func211.trans (congrArg some (by kernel_rfl))
  f219 := Tryd.func220.trans (congrArg some (by kernel_rfl))
  f224 := Tryd.func227.trans (congrArg some (by kernel_rfl))
  f225 := Tryd.func226.trans (congrArg some (by kernel_rfl))
  f266 := Tryd.func232.trans (congrArg some (by kernel_rfl))
  f267 := Tryd.func228.trans (congrArg some (by kernel_rfl))
  f314 := Tryd.func233.trans (congrArg some (by kernel_rfl))
  t0 := Tryd.underlying0
  a0 := Tryd.isAgg0
  z0 := Tryd.sizeOf0
  v0 := Tryd.zeroValue0
  t3 := Tryd.underlying3
  a3 := Tryd.isAgg3
  z3 := Tryd.sizeOf3
  v3 := Tryd.zeroValue3
  t4 := Tryd.underlying4
  a4 := Tryd.isAgg4
  z4 := Tryd.sizeOf4
  v4 := Tryd.zeroValue4
  t5 := Tryd.underlying5
  a5 := Tryd.isAgg5
  z5 := Tryd.sizeOf5
  v5 := Tryd.zeroValue5
  t9 := Tryd.underlying9
  a9 := Tryd.isAgg9
  z9 := Tryd.sizeOf9
  v9 := Tryd.zeroValue9
  t46 := Tryd.underlying211
  a46 := Tryd.isAgg211
  z46 := Tryd.sizeOf211
  v46 := Tryd.zeroValue211
  t51 := Tryd.underlying220
  a51 := Tryd.isAgg220
  z51 := Tryd.sizeOf220
  v51 := Tryd.zeroValue220
  t146 := Tryd.underlying221
  a146 := Tryd.isAgg221
  z146 := Tryd.sizeOf221
  v146 := Tryd.zeroValue221
  g1 := by kernel_rfl }
open Go.RowKit Go.Lib in
/-- strings.Count AT A substr OF ONE BYTE ('hp'): "Count counts the number of non-overlapping instances of substr in s.": IT RETURNS 'Lib.countByte s (that byte)'; the world is as it was. ✋ NO CONTRACT HERE YET at an empty substr (utf8.RuneCountInString) or at a longer one (a loop over strings.Index). (LAID: no walk: one application.) -/
theorem Tryd.strings_Count_one (s : ByteArray) (c : UInt8) (w : World) :
    Calls Tryd.prog 171 #[.string s, .string ⟨#[c]⟩] w fun e w' => e = .returned (.int .i64 (Lib.countByte s.data.toList c)) ∧ w' = w := Any.strings_Count_one Tryd.lays138 s c w
end Go.Proofs
