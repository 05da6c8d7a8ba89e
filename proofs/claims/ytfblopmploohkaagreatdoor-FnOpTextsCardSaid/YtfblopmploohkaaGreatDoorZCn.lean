/- The ground of the library's contracts at this seat, laid (printed by mklay.py, own work). -/
import Derived.Shelf.Strings.Search3
import Derived.Ground.NamesProg
import Derived.Test.YtfblopmploohkaaGreatDoorProg
set_option linter.unusedVariables false
namespace Go.Proofs.YtfblopmploohkaaGreatDoor
open Go Go.Shelf Go.Proofs
def contL_ren : Go.Shelf.Ren := ⟨fun | 144 => 42 | 143 => 64 | 219 => 86 | 217 => 121 | 225 => 122 | 224 => 123 | 267 => 124 | 266 => 155 | 314 => 156 | n => n, fun | 9 => 9 | 4 => 4 | 3 => 3 | 5 => 5 | 46 => 170 | 146 => 210 | 51 => 206 | n => n, fun | 1 => 0 | n => n⟩
theorem contL : Go.Proofs.Lays.n144 Tryz.prog contL_ren := {
  mixed := by kernel_rfl,
  f143 := Tryz.func64.trans (congrArg some (by kernel_rfl)),
  f144 := Tryz.func42.trans (congrArg some (by kernel_rfl)),
  f217 := Tryz.func121.trans (congrArg some (by kernel_rfl)),
  f219 := Tryz.func86.trans (congrArg some (by kernel_rfl)),
  f224 := Tryz.func123.trans (congrArg some (by kernel_rfl)),
  f225 := Tryz.func122.trans (congrArg some (by kernel_rfl)),
  f266 := Tryz.func155.trans (congrArg some (by kernel_rfl)),
  f267 := Tryz.func124.trans (congrArg some (by kernel_rfl)),
  f314 := Tryz.func156.trans (congrArg some (by kernel_rfl)),
  t3 := Tryz.underlying3,
  a3 := Tryz.isAgg3,
  z3 := Tryz.sizeOf3,
  v3 := Tryz.zeroValue3,
  t4 := Tryz.underlying4,
  a4 := Tryz.isAgg4,
  z4 := Tryz.sizeOf4,
  v4 := Tryz.zeroValue4,
  t5 := Tryz.underlying5,
  a5 := Tryz.isAgg5,
  z5 := Tryz.sizeOf5,
  v5 := Tryz.zeroValue5,
  t9 := Tryz.underlying9,
  a9 := Tryz.isAgg9,
  z9 := Tryz.sizeOf9,
  v9 := Tryz.zeroValue9,
  t46 := Tryz.underlying170,
  a46 := Tryz.isAgg170,
  z46 := Tryz.sizeOf170,
  v46 := Tryz.zeroValue170,
  t51 := Tryz.underlying206,
  a51 := Tryz.isAgg206,
  z51 := Tryz.sizeOf206,
  v51 := Tryz.zeroValue206,
  t146 := Tryz.underlying210,
  a146 := Tryz.isAgg210,
  z146 := Tryz.sizeOf210,
  v146 := Tryz.zeroValue210,
  g1 := by kernel_rfl }
end Go.Proofs.YtfblopmploohkaaGreatDoor
