/- the contracts of the library functions -/
import Derived.Test.YtgmppfmemimkkaaGreatAvT
import Derived.Test.YtgmppfmemimkkaaGreatAvCl
import Derived.Test.YtgmppfmemimkkaaGreatAvShStepWrite
import Derived.Test.YtgmppfmemimkkaaGreatAvShelf
namespace Go.Proofs
open Go Go.Av
set_option maxRecDepth 100000
set_option maxHeartbeats 40000000
set_option linter.unusedVariables false
set_option linter.unusedSimpArgs false
namespace Lw
theorem g_slices_Clone_Simpl_Entry_impl_Entry_ok (N : Nat) (v0 : List (Gx.Entry)) {r : (List (Gx.Entry))} (h : g_slices_Clone_Simpl_Entry_impl_Entry N v0 = some r) : Pure Tryz.prog 104 [DV.one (D.sl 4 (List.map Gx.Entry.enc v0))] (DV.one (D.sl 4 (List.map Gx.Entry.enc r))) := by
 unfold g_slices_Clone_Simpl_Entry_impl_Entry chk at h
 split at h
 ·rename_i hh
  cases h
  exact pure_cloneL Tryz.laysClone_f104 rfl rfl (Tryz.tok _ _ rfl) ⟨Tryz.f104, Tryz.func104, by kernel_rfl, by kernel_rfl⟩ rfl _ (flat_map fun _ => rfl) (by simpa using hh) (by decide)
 ·cases h
theorem g_slices_Clone_Simpl_Listed_impl_Listed_ok (N : Nat) (v0 : List (Gx.Listed)) {r : (List (Gx.Listed))} (h : g_slices_Clone_Simpl_Listed_impl_Listed N v0 = some r) : Pure Tryz.prog 98 [DV.one (D.sl 4 (List.map Gx.Listed.enc v0))] (DV.one (D.sl 4 (List.map Gx.Listed.enc r))) := by
 unfold g_slices_Clone_Simpl_Listed_impl_Listed chk at h
 split at h
 ·rename_i hh
  cases h
  exact pure_cloneL Tryz.laysClone_f98 rfl rfl (Tryz.tok _ _ rfl) ⟨Tryz.f98, Tryz.func98, by kernel_rfl, by kernel_rfl⟩ rfl _ (flat_map fun _ => rfl) (by simpa using hh) (by decide)
 ·cases h
theorem g_slices_Clone_Simpl_Meaning_impl_Meaning_ok (N : Nat) (v0 : List (Gx.Meaning)) {r : (List (Gx.Meaning))} (h : g_slices_Clone_Simpl_Meaning_impl_Meaning N v0 = some r) : Pure Tryz.prog 99 [DV.one (D.sl 2 (List.map Gx.Meaning.enc v0))] (DV.one (D.sl 2 (List.map Gx.Meaning.enc r))) := by
 unfold g_slices_Clone_Simpl_Meaning_impl_Meaning chk at h
 split at h
 ·rename_i hh
  cases h
  exact pure_cloneL Tryz.laysClone_f99 rfl rfl (Tryz.tok _ _ rfl) ⟨Tryz.f99, Tryz.func99, by kernel_rfl, by kernel_rfl⟩ rfl _ (flat_map fun _ => rfl) (by simpa using hh) (by decide)
 ·cases h
theorem g_slices_Clone_Simpl_Step_impl_Step_ok (N : Nat) (v0 : List (Gx.Step)) {r : (List (Gx.Step))} (h : g_slices_Clone_Simpl_Step_impl_Step N v0 = some r) : Pure Tryz.prog 176 [DV.one (D.sl 4 (List.map Gx.Step.enc v0))] (DV.one (D.sl 4 (List.map Gx.Step.enc r))) := by
 unfold g_slices_Clone_Simpl_Step_impl_Step chk at h
 split at h
 ·rename_i hh
  cases h
  exact pure_cloneL Tryz.laysClone_f176 rfl rfl (Tryz.tok _ _ rfl) ⟨Tryz.f176, Tryz.func176, by kernel_rfl, by kernel_rfl⟩ rfl _ (flat_map fun _ => rfl) (by simpa using hh) (by decide)
 ·cases h
theorem g_slices_Clone_Simpl_Used_impl_Used_ok (N : Nat) (v0 : List (Gx.Used)) {r : (List (Gx.Used))} (h : g_slices_Clone_Simpl_Used_impl_Used N v0 = some r) : Pure Tryz.prog 102 [DV.one (D.sl 2 (List.map Gx.Used.enc v0))] (DV.one (D.sl 2 (List.map Gx.Used.enc r))) := by
 unfold g_slices_Clone_Simpl_Used_impl_Used chk at h
 split at h
 ·rename_i hh
  cases h
  exact pure_cloneL Tryz.laysClone_f102 rfl rfl (Tryz.tok _ _ rfl) ⟨Tryz.f102, Tryz.func102, by kernel_rfl, by kernel_rfl⟩ rfl _ (flat_map fun _ => rfl) (by simpa using hh) (by decide)
 ·cases h
theorem g_slices_Clone_Sint_int_ok (N : Nat) (v0 : List (Int)) {r : (List (Int))} (h : g_slices_Clone_Sint_int N v0 = some r) : Pure Tryz.prog 175 [DV.one (D.sl 1 (List.map Gx.encI v0))] (DV.one (D.sl 1 (List.map Gx.encI r))) := by
 unfold g_slices_Clone_Sint_int chk at h
 split at h
 ·rename_i hh
  cases h
  exact pure_cloneL Tryz.laysClone_f175 rfl rfl (Tryz.tok _ _ rfl) ⟨Tryz.f175, Tryz.func175, by kernel_rfl, by kernel_rfl⟩ rfl _ (flat_map fun _ => rfl) (by simpa using hh) (by decide)
 ·cases h
end Lw
end Go.Proofs
