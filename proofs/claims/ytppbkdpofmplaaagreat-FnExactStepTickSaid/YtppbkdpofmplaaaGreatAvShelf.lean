/- LAID BY THE SHELF's lay-shelf.mjs AND lay-plain.mjs (remarks left out): the library contracts at this translation. -/
import Derived.Ground.Names2Prog
import Derived.Shelf.Slices.Clone
import Derived.Ground.SlgnProg
import Derived.Shelf.SlicesE.Clone
import Derived.Test.YtppbkdpofmplaaaGreatProg
namespace Go.Proofs
open Go.Shelf
def Tryz.laysClone_f135_ren : Go.Shelf.Ren := ⟨fun | 41 => 135 | n => n, fun | 22 => 37 | 23 => 138 | 4 => 4 | n => n, fun | n => n⟩
theorem Tryz.laysClone_f135 : Go.Proofs.SlLaysE0.n41 Tryz.prog Tryz.laysClone_f135_ren := {
  mixed := by kernel_rfl
  f41 := ⟨Tryz.f135.name, by decide, Tryz.func135.trans (congrArg some (by kernel_rfl))⟩
  t4 := Tryz.underlying4
  a4 := Tryz.isAgg4
  z4 := Tryz.sizeOf4
  v4 := Tryz.zeroValue4
  t22 := Tryz.underlying37
  a22 := Tryz.isAgg37
  z22 := Tryz.sizeOf37
  v22 := Tryz.zeroValue37 }
def Tryz.laysClone_f136_ren : Go.Shelf.Ren := ⟨fun | 41 => 136 | n => n, fun | 22 => 38 | 23 => 140 | 4 => 4 | n => n, fun | n => n⟩
theorem Tryz.laysClone_f136 : Go.Proofs.SlLaysE0.n41 Tryz.prog Tryz.laysClone_f136_ren := {
  mixed := by kernel_rfl
  f41 := ⟨Tryz.f136.name, by decide, Tryz.func136.trans (congrArg some (by kernel_rfl))⟩
  t4 := Tryz.underlying4
  a4 := Tryz.isAgg4
  z4 := Tryz.sizeOf4
  v4 := Tryz.zeroValue4
  t22 := Tryz.underlying38
  a22 := Tryz.isAgg38
  z22 := Tryz.sizeOf38
  v22 := Tryz.zeroValue38 }
def Tryz.laysClone_f138_ren : Go.Shelf.Ren := ⟨fun | 41 => 138 | n => n, fun | 22 => 44 | 23 => 145 | 4 => 4 | n => n, fun | n => n⟩
theorem Tryz.laysClone_f138 : Go.Proofs.SlLaysE0.n41 Tryz.prog Tryz.laysClone_f138_ren := {
  mixed := by kernel_rfl
  f41 := ⟨Tryz.f138.name, by decide, Tryz.func138.trans (congrArg some (by kernel_rfl))⟩
  t4 := Tryz.underlying4
  a4 := Tryz.isAgg4
  z4 := Tryz.sizeOf4
  v4 := Tryz.zeroValue4
  t22 := Tryz.underlying44
  a22 := Tryz.isAgg44
  z22 := Tryz.sizeOf44
  v22 := Tryz.zeroValue44 }
def Tryz.laysClone_f140_ren : Go.Shelf.Ren := ⟨fun | 41 => 140 | n => n, fun | 22 => 46 | 23 => 73 | 4 => 4 | n => n, fun | n => n⟩
theorem Tryz.laysClone_f140 : Go.Proofs.SlLaysE0.n41 Tryz.prog Tryz.laysClone_f140_ren := {
  mixed := by kernel_rfl
  f41 := ⟨Tryz.f140.name, by decide, Tryz.func140.trans (congrArg some (by kernel_rfl))⟩
  t4 := Tryz.underlying4
  a4 := Tryz.isAgg4
  z4 := Tryz.sizeOf4
  v4 := Tryz.zeroValue4
  t22 := Tryz.underlying46
  a22 := Tryz.isAgg46
  z22 := Tryz.sizeOf46
  v22 := Tryz.zeroValue46 }
def Tryz.laysClone_f193_ren : Go.Shelf.Ren := ⟨fun | 41 => 193 | n => n, fun | 22 => 65 | 23 => 3 | 4 => 4 | n => n, fun | n => n⟩
theorem Tryz.laysClone_f193 : Go.Proofs.SlLaysE0.n41 Tryz.prog Tryz.laysClone_f193_ren := {
  mixed := by kernel_rfl
  f41 := ⟨Tryz.f193.name, by decide, Tryz.func193.trans (congrArg some (by kernel_rfl))⟩
  t4 := Tryz.underlying4
  a4 := Tryz.isAgg4
  z4 := Tryz.sizeOf4
  v4 := Tryz.zeroValue4
  t22 := Tryz.underlying65
  a22 := Tryz.isAgg65
  z22 := Tryz.sizeOf65
  v22 := Tryz.zeroValue65 }
def Tryz.laysClone_f213_ren : Go.Shelf.Ren := ⟨fun | 41 => 213 | n => n, fun | 22 => 97 | 23 => 198 | 4 => 4 | n => n, fun | n => n⟩
theorem Tryz.laysClone_f213 : Go.Proofs.SlLaysE0.n41 Tryz.prog Tryz.laysClone_f213_ren := {
  mixed := by kernel_rfl
  f41 := ⟨Tryz.f213.name, by decide, Tryz.func213.trans (congrArg some (by kernel_rfl))⟩
  t4 := Tryz.underlying4
  a4 := Tryz.isAgg4
  z4 := Tryz.sizeOf4
  v4 := Tryz.zeroValue4
  t22 := Tryz.underlying97
  a22 := Tryz.isAgg97
  z22 := Tryz.sizeOf97
  v22 := Tryz.zeroValue97 }
end Go.Proofs
