/- the contracts of the library functions -/
import Derived.Test.YtgmppfmemimkkaaAvT
import Derived.Test.YtgmppfmemimkkaaAvCl
import Derived.Test.YtgmppfmemimkkaaAvShDeskEvents
import Derived.Test.YtgmppfmemimkkaaAvShelf
namespace Go.Proofs
open Go Go.Av
set_option maxRecDepth 100000
set_option maxHeartbeats 4000000
set_option linter.unusedVariables false
set_option linter.unusedSimpArgs false
namespace Lw
theorem g_slices_Clone_Simpl_Step_impl_Step_ok (N : Nat) (v0 : List (Gx.Step)) {r : (List (Gx.Step))} (h : g_slices_Clone_Simpl_Step_impl_Step N v0 = some r) : Pure Try.prog 41 [DV.one (D.sl 4 (List.map Gx.Step.enc v0))] (DV.one (D.sl 4 (List.map Gx.Step.enc r))) := by
 unfold g_slices_Clone_Simpl_Step_impl_Step chk at h
 split at h
 ·rename_i hh
  cases h
  exact pure_cloneL Try.laysClone_f41 rfl rfl (Try.tok _ _ rfl) ⟨Try.f41, Try.func41, by kernel_rfl, by kernel_rfl⟩ rfl _ (flat_map fun _ => rfl) (by simpa using hh) (by decide)
 ·cases h
end Lw
end Go.Proofs
