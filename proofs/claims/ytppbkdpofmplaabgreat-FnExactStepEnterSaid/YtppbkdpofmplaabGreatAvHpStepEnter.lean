/- the contracts of the library functions -/
import Derived.Test.YtppbkdpofmplaabGreatAvT
import Derived.Test.YtppbkdpofmplaabGreatAvCl
import Derived.Test.YtppbkdpofmplaabGreatAvShStepEnter
import Derived.Test.YtppbkdpofmplaabGreatAvShelf
namespace Go.Proofs
open Go Go.Av
set_option maxRecDepth 100000
set_option maxHeartbeats 4000000
set_option linter.unusedVariables false
set_option linter.unusedSimpArgs false
namespace Lw
theorem g_slices_Clone_Simpl_Entry_impl_Entry_ok (N : Nat) (v0 : List (Gx.Entry)) {r : (List (Gx.Entry))} (h : g_slices_Clone_Simpl_Entry_impl_Entry N v0 = some r) : Pure Tryz.prog 93 [DV.one (D.sl 4 (List.map Gx.Entry.enc v0))] (DV.one (D.sl 4 (List.map Gx.Entry.enc r))) := by
 unfold g_slices_Clone_Simpl_Entry_impl_Entry chk at h
 split at h
 ·rename_i hh
  cases h
  exact pure_cloneL Tryz.laysClone_f93 rfl rfl (Tryz.tok _ _ rfl) ⟨Tryz.f93, Tryz.func93, by kernel_rfl, by kernel_rfl⟩ rfl _ (flat_map fun _ => rfl) (by simpa using hh) (by decide)
 ·cases h
theorem g_slices_Clone_Simpl_Listed_impl_Listed_ok (N : Nat) (v0 : List (Gx.Listed)) {r : (List (Gx.Listed))} (h : g_slices_Clone_Simpl_Listed_impl_Listed N v0 = some r) : Pure Tryz.prog 87 [DV.one (D.sl 4 (List.map Gx.Listed.enc v0))] (DV.one (D.sl 4 (List.map Gx.Listed.enc r))) := by
 unfold g_slices_Clone_Simpl_Listed_impl_Listed chk at h
 split at h
 ·rename_i hh
  cases h
  exact pure_cloneL Tryz.laysClone_f87 rfl rfl (Tryz.tok _ _ rfl) ⟨Tryz.f87, Tryz.func87, by kernel_rfl, by kernel_rfl⟩ rfl _ (flat_map fun _ => rfl) (by simpa using hh) (by decide)
 ·cases h
theorem g_slices_Clone_Simpl_Meaning_impl_Meaning_ok (N : Nat) (v0 : List (Gx.Meaning)) {r : (List (Gx.Meaning))} (h : g_slices_Clone_Simpl_Meaning_impl_Meaning N v0 = some r) : Pure Tryz.prog 88 [DV.one (D.sl 2 (List.map Gx.Meaning.enc v0))] (DV.one (D.sl 2 (List.map Gx.Meaning.enc r))) := by
 unfold g_slices_Clone_Simpl_Meaning_impl_Meaning chk at h
 split at h
 ·rename_i hh
  cases h
  exact pure_cloneL Tryz.laysClone_f88 rfl rfl (Tryz.tok _ _ rfl) ⟨Tryz.f88, Tryz.func88, by kernel_rfl, by kernel_rfl⟩ rfl _ (flat_map fun _ => rfl) (by simpa using hh) (by decide)
 ·cases h
theorem g_slices_Clone_Simpl_Step_impl_Step_ok (N : Nat) (v0 : List (Gx.Step)) {r : (List (Gx.Step))} (h : g_slices_Clone_Simpl_Step_impl_Step N v0 = some r) : Pure Tryz.prog 166 [DV.one (D.sl 4 (List.map Gx.Step.enc v0))] (DV.one (D.sl 4 (List.map Gx.Step.enc r))) := by
 unfold g_slices_Clone_Simpl_Step_impl_Step chk at h
 split at h
 ·rename_i hh
  cases h
  exact pure_cloneL Tryz.laysClone_f166 rfl rfl (Tryz.tok _ _ rfl) ⟨Tryz.f166, Tryz.func166, by kernel_rfl, by kernel_rfl⟩ rfl _ (flat_map fun _ => rfl) (by simpa using hh) (by decide)
 ·cases h
theorem g_slices_Clone_Simpl_Used_impl_Used_ok (N : Nat) (v0 : List (Gx.Used)) {r : (List (Gx.Used))} (h : g_slices_Clone_Simpl_Used_impl_Used N v0 = some r) : Pure Tryz.prog 91 [DV.one (D.sl 2 (List.map Gx.Used.enc v0))] (DV.one (D.sl 2 (List.map Gx.Used.enc r))) := by
 unfold g_slices_Clone_Simpl_Used_impl_Used chk at h
 split at h
 ·rename_i hh
  cases h
  exact pure_cloneL Tryz.laysClone_f91 rfl rfl (Tryz.tok _ _ rfl) ⟨Tryz.f91, Tryz.func91, by kernel_rfl, by kernel_rfl⟩ rfl _ (flat_map fun _ => rfl) (by simpa using hh) (by decide)
 ·cases h
theorem g_slices_Clone_Sint_int_ok (N : Nat) (v0 : List (Int)) {r : (List (Int))} (h : g_slices_Clone_Sint_int N v0 = some r) : Pure Tryz.prog 179 [DV.one (D.sl 1 (List.map Gx.encI v0))] (DV.one (D.sl 1 (List.map Gx.encI r))) := by
 unfold g_slices_Clone_Sint_int chk at h
 split at h
 ·rename_i hh
  cases h
  exact pure_cloneL Tryz.laysClone_f179 rfl rfl (Tryz.tok _ _ rfl) ⟨Tryz.f179, Tryz.func179, by kernel_rfl, by kernel_rfl⟩ rfl _ (flat_map fun _ => rfl) (by simpa using hh) (by decide)
 ·cases h
end Lw
end Go.Proofs
