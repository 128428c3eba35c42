/- LAID BY THE SHELF's lay-shelf.mjs AND lay-plain.mjs (remarks left out): the library contracts at this translation. -/
import Derived.Ground.Names2Prog
import Derived.Shelf.Slices.Clone
import Derived.Ground.SlgnProg
import Derived.Shelf.SlicesE.Clone
import Derived.Test.YtppbkdpofmplaabGreatProg
namespace Go.Proofs
open Go.Shelf
def Tryz.laysClone_f87_ren : Go.Shelf.Ren := ⟨fun | 41 => 87 | n => n, fun | 22 => 26 | 23 => 84 | 4 => 4 | n => n, fun | n => n⟩
theorem Tryz.laysClone_f87 : Go.Proofs.SlLaysE0.n41 Tryz.prog Tryz.laysClone_f87_ren := {
  mixed := by kernel_rfl
  f41 := ⟨Tryz.f87.name, by decide, Tryz.func87.trans (congrArg some (by kernel_rfl))⟩
  t4 := Tryz.underlying4
  a4 := Tryz.isAgg4
  z4 := Tryz.sizeOf4
  v4 := Tryz.zeroValue4
  t22 := Tryz.underlying26
  a22 := Tryz.isAgg26
  z22 := Tryz.sizeOf26
  v22 := Tryz.zeroValue26 }
def Tryz.laysClone_f88_ren : Go.Shelf.Ren := ⟨fun | 41 => 88 | n => n, fun | 22 => 27 | 23 => 86 | 4 => 4 | n => n, fun | n => n⟩
theorem Tryz.laysClone_f88 : Go.Proofs.SlLaysE0.n41 Tryz.prog Tryz.laysClone_f88_ren := {
  mixed := by kernel_rfl
  f41 := ⟨Tryz.f88.name, by decide, Tryz.func88.trans (congrArg some (by kernel_rfl))⟩
  t4 := Tryz.underlying4
  a4 := Tryz.isAgg4
  z4 := Tryz.sizeOf4
  v4 := Tryz.zeroValue4
  t22 := Tryz.underlying27
  a22 := Tryz.isAgg27
  z22 := Tryz.sizeOf27
  v22 := Tryz.zeroValue27 }
def Tryz.laysClone_f91_ren : Go.Shelf.Ren := ⟨fun | 41 => 91 | n => n, fun | 22 => 34 | 23 => 139 | 4 => 4 | n => n, fun | n => n⟩
theorem Tryz.laysClone_f91 : Go.Proofs.SlLaysE0.n41 Tryz.prog Tryz.laysClone_f91_ren := {
  mixed := by kernel_rfl
  f41 := ⟨Tryz.f91.name, by decide, Tryz.func91.trans (congrArg some (by kernel_rfl))⟩
  t4 := Tryz.underlying4
  a4 := Tryz.isAgg4
  z4 := Tryz.sizeOf4
  v4 := Tryz.zeroValue4
  t22 := Tryz.underlying34
  a22 := Tryz.isAgg34
  z22 := Tryz.sizeOf34
  v22 := Tryz.zeroValue34 }
def Tryz.laysClone_f93_ren : Go.Shelf.Ren := ⟨fun | 41 => 93 | n => n, fun | 22 => 36 | 23 => 125 | 4 => 4 | n => n, fun | n => n⟩
theorem Tryz.laysClone_f93 : Go.Proofs.SlLaysE0.n41 Tryz.prog Tryz.laysClone_f93_ren := {
  mixed := by kernel_rfl
  f41 := ⟨Tryz.f93.name, by decide, Tryz.func93.trans (congrArg some (by kernel_rfl))⟩
  t4 := Tryz.underlying4
  a4 := Tryz.isAgg4
  z4 := Tryz.sizeOf4
  v4 := Tryz.zeroValue4
  t22 := Tryz.underlying36
  a22 := Tryz.isAgg36
  z22 := Tryz.sizeOf36
  v22 := Tryz.zeroValue36 }
def Tryz.laysClone_f166_ren : Go.Shelf.Ren := ⟨fun | 41 => 166 | n => n, fun | 22 => 67 | 23 => 180 | 4 => 4 | n => n, fun | n => n⟩
theorem Tryz.laysClone_f166 : Go.Proofs.SlLaysE0.n41 Tryz.prog Tryz.laysClone_f166_ren := {
  mixed := by kernel_rfl
  f41 := ⟨Tryz.f166.name, by decide, Tryz.func166.trans (congrArg some (by kernel_rfl))⟩
  t4 := Tryz.underlying4
  a4 := Tryz.isAgg4
  z4 := Tryz.sizeOf4
  v4 := Tryz.zeroValue4
  t22 := Tryz.underlying67
  a22 := Tryz.isAgg67
  z22 := Tryz.sizeOf67
  v22 := Tryz.zeroValue67 }
def Tryz.laysClone_f179_ren : Go.Shelf.Ren := ⟨fun | 41 => 179 | n => n, fun | 22 => 117 | 23 => 3 | 4 => 4 | n => n, fun | n => n⟩
theorem Tryz.laysClone_f179 : Go.Proofs.SlLaysE0.n41 Tryz.prog Tryz.laysClone_f179_ren := {
  mixed := by kernel_rfl
  f41 := ⟨Tryz.f179.name, by decide, Tryz.func179.trans (congrArg some (by kernel_rfl))⟩
  t4 := Tryz.underlying4
  a4 := Tryz.isAgg4
  z4 := Tryz.sizeOf4
  v4 := Tryz.zeroValue4
  t22 := Tryz.underlying117
  a22 := Tryz.isAgg117
  z22 := Tryz.sizeOf117
  v22 := Tryz.zeroValue117 }
end Go.Proofs
