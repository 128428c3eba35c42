/- LAID BY THE SHELF's lay-shelf.mjs AND lay-plain.mjs (remarks left out): the library contracts at this translation. -/
import Derived.Ground.Names2Prog
import Derived.Shelf.Slices.Clone
import Derived.Ground.SlgnProg
import Derived.Shelf.SlicesE.Clone
import Derived.Test.YtppbkdpofmplaaaProg
namespace Go.Proofs
open Go.Shelf
def Try.laysClone_f102_ren : Go.Shelf.Ren := ⟨fun | 41 => 102 | n => n, fun | 22 => 38 | 23 => 3 | 4 => 4 | n => n, fun | n => n⟩
theorem Try.laysClone_f102 : Go.Proofs.SlLaysE0.n41 Try.prog Try.laysClone_f102_ren := {
  mixed := by kernel_rfl
  f41 := ⟨Try.f102.name, by decide, Try.func102.trans (congrArg some (by kernel_rfl))⟩
  t4 := Try.underlying4
  a4 := Try.isAgg4
  z4 := Try.sizeOf4
  v4 := Try.zeroValue4
  t22 := Try.underlying38
  a22 := Try.isAgg38
  z22 := Try.sizeOf38
  v22 := Try.zeroValue38 }
def Try.laysClone_f120_ren : Go.Shelf.Ren := ⟨fun | 41 => 120 | n => n, fun | 22 => 137 | 23 => 168 | 4 => 4 | n => n, fun | n => n⟩
theorem Try.laysClone_f120 : Go.Proofs.SlLaysE0.n41 Try.prog Try.laysClone_f120_ren := {
  mixed := by kernel_rfl
  f41 := ⟨Try.f120.name, by decide, Try.func120.trans (congrArg some (by kernel_rfl))⟩
  t4 := Try.underlying4
  a4 := Try.isAgg4
  z4 := Try.sizeOf4
  v4 := Try.zeroValue4
  t22 := Try.underlying137
  a22 := Try.isAgg137
  z22 := Try.sizeOf137
  v22 := Try.zeroValue137 }
end Go.Proofs
