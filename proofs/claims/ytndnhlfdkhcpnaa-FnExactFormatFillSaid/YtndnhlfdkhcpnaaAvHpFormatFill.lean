/- the contracts of the library functions -/
import Derived.Test.YtndnhlfdkhcpnaaAvT
import Derived.Test.YtndnhlfdkhcpnaaAvJn
import Derived.Test.YtndnhlfdkhcpnaaAvShFormatFill
import Derived.Test.YtndnhlfdkhcpnaaAvShelf
namespace Go.Proofs
open Go Go.Av
set_option maxRecDepth 100000
set_option maxHeartbeats 4000000
set_option linter.unusedVariables false
set_option linter.unusedSimpArgs false
namespace Lw
theorem g_strings_Join_ok (N : Nat) (v0 : List (List UInt8)) (v1 : List UInt8) {r : (List UInt8)} (h : g_strings_Join N v0 v1 = some r) : Pure Try.prog 52 [DV.one (D.sl 1 (List.map Gx.encS v0)), DV.one (D.s v1)] (DV.one (D.s r)) := by
  unfold g_strings_Join chk at h
  split at h
  · rename_i hh
    cases h
    exact pure_join ⟨Try.f52, Try.func52, by kernel_rfl, by kernel_rfl⟩ Try.strings_Join_none Try.strings_Join v0 v1 (by omega) (by omega)
  · cases h
end Lw
end Go.Proofs
