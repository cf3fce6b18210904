/-
  DERIVED: THE SHELF's CONTRACTS AT THIS DUMP, IN PLAIN WORDS (tools/lay-plain.mjs out of 'TrydShelf.lean', which tools/lay-shelf.mjs wrote): THE SAME DECLARATIONS UNDER THE SAME NAMES: 'import', 'namespace', 'open', 'def', 'theorem' AND NOTHING ELSE: no command of the shelf's: FOR A HAND-IN. Each laying: the table of numbers ('.._ren') and one theorem, a field a fact of the dump's own or the kernel's comparison; each contract: ONE APPLICATION.
-/
import Derived.Ground.NamesProg
import Derived.Shelf.Strings.SlTrimAscii
import Derived.Ground.Names2Prog
import Derived.Shelf.Slices.Cells
import Derived.Shelf.Spec.SlicesInsert
import Derived.Shelf.Spec.SlicesInsertGrow
import Derived.Test.YtkcajnpdmgafjaaDoorProg
namespace Go.Proofs
open Go.Shelf
def Tryd.lays160_ren : Go.Shelf.Ren := ⟨fun | 160 => 127 | 232 => 208 | 231 => 207 | 227 => 209 | 234 => 211 | 233 => 210 | 236 => 213 | 235 => 212 | 228 => 244 | 271 => 247 | 151 => 246 | 197 => 245 | 120 => 253 | 152 => 252 | 260 => 251 | 137 => 259 | 119 => 260 | 224 => 256 | 225 => 255 | 217 => 254 | 266 => 261 | n => n, fun | 9 => 9 | 4 => 4 | 3 => 3 | 5 => 5 | 117 => 205 | 116 => 204 | 0 => 0 | 124 => 208 | 21 => 21 | 105 => 234 | 46 => 237 | 119 => 241 | 139 => 244 | 138 => 243 | n => n, fun | 3 => 1 | 4 => 2 | n => n⟩
theorem Tryd.lays160 : Go.Proofs.Lays.n160 Tryd.prog Tryd.lays160_ren := {
  mixed := by kernel_rfl
  f119 := Tryd.func260.trans (congrArg some (by kernel_rfl))
  f120 := Tryd.func253.trans (congrArg some (by kernel_rfl))
  f137 := Tryd.func259.trans (congrArg some (by kernel_rfl))
  f151 := Tryd.func246.trans (congrArg some (by kernel_rfl))
  f152 := Tryd.func252.trans (congrArg some (by kernel_rfl))
  f160 := Tryd.func127.trans (congrArg some (by kernel_rfl))
  f197 := Tryd.func245.trans (congrArg some (by kernel_rfl))
  f217 := Tryd.func254.trans (congrArg some (by kernel_rfl))
  f224 := Tryd.func256.trans (congrArg some (by kernel_rfl))
  f225 := Tryd.func255.trans (congrArg some (by kernel_rfl))
  f227 := Tryd.func209.trans (congrArg some (by kernel_rfl))
  f228 := Tryd.func244.trans (congrArg some (by kernel_rfl))
  f231 := Tryd.func207.trans (congrArg some (by kernel_rfl))
  f232 := Tryd.func208.trans (congrArg some (by kernel_rfl))
  f233 := Tryd.func210.trans (congrArg some (by kernel_rfl))
  f234 := Tryd.func211.trans (congrArg some (by kernel_rfl))
  f235 := Tryd.func212.trans (congrArg some (by kernel_rfl))
  f236 := Tryd.func213.trans (congrArg some (by kernel_rfl))
  f260 := Tryd.func251.trans (congrArg some (by kernel_rfl))
  f266 := Tryd.func261.trans (congrArg some (by kernel_rfl))
  f271 := Tryd.func247.trans (congrArg some (by kernel_rfl))
  t0 := Tryd.underlying0
  a0 := Tryd.isAgg0
  z0 := Tryd.sizeOf0
  v0 := Tryd.zeroValue0
  t3 := Tryd.underlying3
  a3 := Tryd.isAgg3
  z3 := Tryd.sizeOf3
  v3 := Tryd.zeroValue3
  t4 := Tryd.underlying4
  a4 := Tryd.isAgg4
  z4 := Tryd.sizeOf4
  v4 := Tryd.zeroValue4
  t5 := Tryd.underlying5
  a5 := Tryd.isAgg5
  z5 := Tryd.sizeOf5
  v5 := Tryd.zeroValue5
  t9 := Tryd.underlying9
  a9 := Tryd.isAgg9
  z9 := Tryd.sizeOf9
  v9 := Tryd.zeroValue9
  t21 := Tryd.underlying21
  a21 := Tryd.isAgg21
  z21 := Tryd.sizeOf21
  v21 := Tryd.zeroValue21
  t46 := Tryd.underlying237
  a46 := Tryd.isAgg237
  z46 := Tryd.sizeOf237
  v46 := Tryd.zeroValue237
  t105 := Tryd.underlying234
  a105 := Tryd.isAgg234
  z105 := Tryd.sizeOf234
  v105 := Tryd.zeroValue234
  t116 := Tryd.underlying204
  a116 := Tryd.isAgg204
  z116 := Tryd.sizeOf204
  t117 := Tryd.underlying205
  a117 := Tryd.isAgg205
  z117 := Tryd.sizeOf205
  v117 := Tryd.zeroValue205
  t119 := Tryd.underlying241
  a119 := Tryd.isAgg241
  z119 := Tryd.sizeOf241
  t124 := Tryd.underlying208
  a124 := Tryd.isAgg208
  z124 := Tryd.sizeOf208
  v124 := Tryd.zeroValue208
  t138 := Tryd.underlying243
  a138 := Tryd.isAgg243
  z138 := Tryd.sizeOf243
  v138 := Tryd.zeroValue243
  t139 := Tryd.underlying244
  a139 := Tryd.isAgg244
  z139 := Tryd.sizeOf244
  v139 := Tryd.zeroValue244
  g3 := by kernel_rfl
  g4 := by kernel_rfl }
def Tryd.laysNm224_ren : Go.Shelf.Ren := ⟨fun | 24 => 130 | n => n, fun | 24 => 22 | 9 => 9 | 3 => 3 | 4 => 4 | 0 => 0 | n => n, fun | n => n⟩
theorem Tryd.laysNm224 : Go.Proofs.Lays2.n24 Tryd.prog Tryd.laysNm224_ren := {
  mixed := by kernel_rfl
  f24 := Tryd.func130.trans (congrArg some (by kernel_rfl))
  t0 := Tryd.underlying0
  a0 := Tryd.isAgg0
  z0 := Tryd.sizeOf0
  v0 := Tryd.zeroValue0
  t3 := Tryd.underlying3
  a3 := Tryd.isAgg3
  z3 := Tryd.sizeOf3
  v3 := Tryd.zeroValue3
  t4 := Tryd.underlying4
  a4 := Tryd.isAgg4
  z4 := Tryd.sizeOf4
  v4 := Tryd.zeroValue4
  t9 := Tryd.underlying9
  a9 := Tryd.isAgg9
  z9 := Tryd.sizeOf9
  v9 := Tryd.zeroValue9
  t24 := Tryd.underlying22
  a24 := Tryd.isAgg22
  z24 := Tryd.sizeOf22
  v24 := Tryd.zeroValue22
  i9 := by kernel_rfl }
def Tryd.laysNm222_ren : Go.Shelf.Ren := ⟨fun | 22 => 204 | 29 => 242 | 30 => 243 | 36 => 250 | 17 => 258 | n => n, fun | 24 => 22 | 9 => 9 | 3 => 3 | 4 => 4 | 0 => 0 | n => n, fun | n => n⟩
theorem Tryd.laysNm222 : Go.Proofs.Lays2.n22 Tryd.prog Tryd.laysNm222_ren := {
  mixed := by kernel_rfl
  f17 := Tryd.func258.trans (congrArg some (by kernel_rfl))
  f22 := Tryd.func204.trans (congrArg some (by kernel_rfl))
  f29 := Tryd.func242.trans (congrArg some (by kernel_rfl))
  f30 := Tryd.func243.trans (congrArg some (by kernel_rfl))
  f36 := Tryd.func250.trans (congrArg some (by kernel_rfl))
  t0 := Tryd.underlying0
  a0 := Tryd.isAgg0
  z0 := Tryd.sizeOf0
  v0 := Tryd.zeroValue0
  t3 := Tryd.underlying3
  a3 := Tryd.isAgg3
  z3 := Tryd.sizeOf3
  v3 := Tryd.zeroValue3
  t4 := Tryd.underlying4
  a4 := Tryd.isAgg4
  z4 := Tryd.sizeOf4
  v4 := Tryd.zeroValue4
  t9 := Tryd.underlying9
  a9 := Tryd.isAgg9
  z9 := Tryd.sizeOf9
  v9 := Tryd.zeroValue9
  t24 := Tryd.underlying22
  a24 := Tryd.isAgg22
  z24 := Tryd.sizeOf22
  v24 := Tryd.zeroValue22
  i9 := by kernel_rfl }
end Go.Proofs
