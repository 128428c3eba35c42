/- the contracts of the library functions -/
import Derived.Test.YtgmppfmemimkkaaDoorAvT
import Derived.Test.YtgmppfmemimkkaaDoorAvIt
import Derived.Test.YtgmppfmemimkkaaDoorAvJn
import Derived.Test.YtgmppfmemimkkaaDoorAvShFormatNumbers
import Derived.Test.YtgmppfmemimkkaaDoorAvShelf
namespace Go.Proofs
open Go Go.Av
set_option maxRecDepth 100000
set_option maxHeartbeats 40000000
set_option linter.unusedVariables false
set_option linter.unusedSimpArgs false
namespace Lw
theorem g_strconv_Itoa_ok (N : Nat) (v0 : Int) {r : (List UInt8)} (h : g_strconv_Itoa N v0 = some r) : Pure Tryd.prog 48 [DV.one (D.i v0)] (DV.one (D.s r)) := by
 unfold g_strconv_Itoa chk at h
 split at h
 ·rename_i hh
  cases h
  exact pure_itoa ⟨Tryd.f48, Tryd.func48, by kernel_rfl, by kernel_rfl⟩ (by kernel_rfl) Tryd.strconv_Itoa v0 hh.1 hh.2
 ·cases h
theorem g_strings_Join_ok (N : Nat) (v0 : List (List UInt8)) (v1 : List UInt8) {r : (List UInt8)} (h : g_strings_Join N v0 v1 = some r) : Pure Tryd.prog 49 [DV.one (D.sl 1 (List.map Gx.encS v0)), DV.one (D.s v1)] (DV.one (D.s r)) := by
 unfold g_strings_Join chk at h
 split at h
 ·rename_i hh
  cases h
  exact pure_join ⟨Tryd.f49, Tryd.func49, by kernel_rfl, by kernel_rfl⟩ Tryd.strings_Join_none Tryd.strings_Join v0 v1 (by omega) (by omega)
 ·cases h
end Lw
end Go.Proofs
