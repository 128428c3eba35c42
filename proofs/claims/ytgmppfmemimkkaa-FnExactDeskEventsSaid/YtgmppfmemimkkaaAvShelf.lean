/- LAID BY THE SHELF's lay-shelf.mjs AND lay-plain.mjs (remarks left out): the library contracts at this translation. -/
import Derived.Ground.SlgnProg
import Derived.Shelf.SlicesE.Clone
import Derived.Test.YtgmppfmemimkkaaProg
namespace Go.Proofs
open Go.Shelf
def Try.laysClone_f41_ren : Go.Shelf.Ren := ⟨fun | 41 => 41 | n => n, fun | 22 => 42 | 23 => 80 | 4 => 4 | n => n, fun | n => n⟩
theorem Try.laysClone_f41 : Go.Proofs.SlLaysE0.n41 Try.prog Try.laysClone_f41_ren := {
  mixed := by kernel_rfl
  f41 := ⟨Try.f41.name, by decide, Try.func41.trans (congrArg some (by kernel_rfl))⟩
  t4 := Try.underlying4
  a4 := Try.isAgg4
  z4 := Try.sizeOf4
  v4 := Try.zeroValue4
  t22 := Try.underlying42
  a22 := Try.isAgg42
  z22 := Try.sizeOf42
  v22 := Try.zeroValue42 }
end Go.Proofs
