/- DERIVED: THE SHELF's CONTRACTS AT THIS DUMP, IN PLAIN WORDS (tools/lay-plain.mjs out of 'TryzCut.lean', which tools/lay-shelf.mjs wrote): THE SAME DECLARATIONS UNDER THE SAME NAMES: 'import', 'namespace', 'open', 'def', 'theorem' AND NOTHING ELSE: no command of the shelf's: FOR A HAND-IN. Each laying: the table of numbers ('.._ren') and one theorem, a field a fact of the dump's own or the kernel's comparison; each contract: ONE APPLICATION. -/
import Derived.Shelf.Bytes.SlCut
import Derived.Ground.SlbtProg
import Derived.Test.YtkanfffbdegfoaaGreatDoorProg
namespace Go.Proofs
set_option linter.unusedVariables false
set_option linter.unusedSimpArgs false
open Go.Shelf
def Tryz.cut_ren : Go.Shelf.Ren := ⟨fun | 4 => 94 | 5 => 152 | 6 => 184 | 7 => 95 | 8 => 185 | 9 => 186 | 10 => 187 | 11 => 204 | 12 => 205 | n => n, fun | 22 => 93 | 4 => 4 | 3 => 3 | 0 => 0 | 5 => 5 | 29 => 118 | 9 => 9 | 31 => 264 | 30 => 190 | n => n, fun | 0 => 2 | n => n⟩
theorem Tryz.cut : Go.Proofs.SlLaysT.n4 Tryz.prog Tryz.cut_ren := {
  mixed := by kernel_rfl
  f4 := Tryz.func94.trans (congrArg some (by kernel_rfl))
  f5 := Tryz.func152.trans (congrArg some (by kernel_rfl))
  f6 := Tryz.func184.trans (congrArg some (by kernel_rfl))
  f7 := Tryz.func95.trans (congrArg some (by kernel_rfl))
  f8 := Tryz.func185.trans (congrArg some (by kernel_rfl))
  f9 := Tryz.func186.trans (congrArg some (by kernel_rfl))
  f10 := Tryz.func187.trans (congrArg some (by kernel_rfl))
  f11 := Tryz.func204.trans (congrArg some (by kernel_rfl))
  f12 := Tryz.func205.trans (congrArg some (by kernel_rfl))
  t0 := Tryz.underlying0
  a0 := Tryz.isAgg0
  z0 := Tryz.sizeOf0
  v0 := Tryz.zeroValue0
  t3 := Tryz.underlying3
  a3 := Tryz.isAgg3
  z3 := Tryz.sizeOf3
  v3 := Tryz.zeroValue3
  t4 := Tryz.underlying4
  a4 := Tryz.isAgg4
  z4 := Tryz.sizeOf4
  v4 := Tryz.zeroValue4
  t5 := Tryz.underlying5
  a5 := Tryz.isAgg5
  z5 := Tryz.sizeOf5
  v5 := Tryz.zeroValue5
  t9 := Tryz.underlying9
  a9 := Tryz.isAgg9
  z9 := Tryz.sizeOf9
  v9 := Tryz.zeroValue9
  t22 := Tryz.underlying93
  a22 := Tryz.isAgg93
  z22 := Tryz.sizeOf93
  v22 := Tryz.zeroValue93
  t29 := Tryz.underlying118
  a29 := Tryz.isAgg118
  z29 := Tryz.sizeOf118
  v29 := Tryz.zeroValue118
  t30 := Tryz.underlying190
  a30 := Tryz.isAgg190
  z30 := Tryz.sizeOf190
  v30 := Tryz.zeroValue190
  t31 := Tryz.underlying264
  a31 := Tryz.isAgg264
  z31 := Tryz.sizeOf264
  v31 := Tryz.zeroValue264
  g0 := by kernel_rfl }
end Go.Proofs
