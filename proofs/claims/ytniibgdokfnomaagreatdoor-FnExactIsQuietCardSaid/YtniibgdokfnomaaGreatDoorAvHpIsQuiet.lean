/- the contracts of the library functions -/
import Derived.Test.YtniibgdokfnomaaGreatDoorAvT
import Derived.Test.YtniibgdokfnomaaGreatDoorAvRa
import Derived.Test.YtniibgdokfnomaaGreatDoorAvShIsQuiet
import Derived.Test.YtniibgdokfnomaaGreatDoorAvShelf
namespace Go.Proofs
open Go Go.Av
set_option maxRecDepth 100000
set_option maxHeartbeats 40000000
set_option linter.unusedVariables false
set_option linter.unusedSimpArgs false
namespace Lw
theorem g_strings_ReplaceAll_ok (N : Nat) (v0 : List UInt8) (v1 : List UInt8) (v2 : List UInt8) {r : (List UInt8)} (h : g_strings_ReplaceAll N v0 v1 v2 = some r) : Pure Tryz.prog 80 [DV.one (D.s v0), DV.one (D.s v1), DV.one (D.s v2)] (DV.one (D.s r)) := by
 unfold g_strings_ReplaceAll chk at h
 split at h
 ·rename_i hh
  cases h
  exact pure_replace (g := 0) ⟨Tryz.f80, Tryz.func80, by kernel_rfl, by kernel_rfl⟩ (by kernel_rfl) (fun w h => Go.Proofs.cell_of_shapedOpen_int (zero := #[.int .i64 0]) (t := 3) h (of_decide_eq_true (by kernel_rfl)) (by kernel_rfl) rfl (by kernel_rfl) (by kernel_rfl) Tryz.underlying3) Tryz.strings_ReplaceAll v0 v1 v2 hh.1 hh.2.1 hh.2.2
 ·cases h
end Lw
end Go.Proofs
